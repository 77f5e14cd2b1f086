import Derived.Test.YtbembkamcdlhbaaGreatDoorZDSb
set_option linter.unusedSimpArgs false
set_option linter.unusedVariables false
set_option maxRecDepth 100000
namespace Go.Proofs.YtbembkamcdlhbaaGreatDoor
open Go.RowKit
def EJ:Ct:=⟨[.agg [kU,kU]],[.sc .bool]⟩
abbrev aa:X:=.var kU 0
abbrev ae:X:=.lit 0
abbrev af:X:=.bin .eql .u64 aa ae
abbrev ag:X:=.var kU 1
abbrev ah:X:=.bin .eql .u64 ag ae
abbrev ai:X:=.lit 1
abbrev aj:X:=.var kI 2
abbrev ak:X:=.bin .lss .i64 aj ae
abbrev au:SV:=.bool ae
abbrev av:rf SV:=.leaf au
abbrev ax:X:=.lit 63
abbrev ay:X:=.var kU 3
abbrev az:X:=.var kU 2
abbrev aA:X:=.var kU 6
abbrev aB:SV:=.int .u64 aA
abbrev aC:X:=.var kU 4
abbrev aD:SV:=.int .u64 aC
abbrev aF:rf SV:=.leaf (.tup [(.agg [aB,aD]),(.bool (.bin .neq .u64 (.var .bit 7) ae))])
abbrev aG:SV:=.int .u64 az
abbrev aH:SV:=.int .u64 ay
abbrev aI:SV:=.int .u64 ag
abbrev aJ:SV:=.int .u64 aa
abbrev aK:SV:=.int .u64 ae
abbrev aL:X:=.lit 128
abbrev aM:X:=.min (.max aj ae) aL
abbrev aN:X:=.max (.lit (-128)) aM
abbrev aO:X:=.lit 6
abbrev aP:X:=.bin .shr .i64 aN aO
abbrev aQ:X:=.bin .sub .i64 ai aP
abbrev aR:X:=.conv .u64 (.bin .and .i64 aN ax)
abbrev aS:X:=.bin .sub .u64 ax aR
abbrev aT:X:=.max (.lit (-128)) (.min (.bin .sub .i64 ae aM) aL)
abbrev aU:X:=.bin .shr .i64 aT aO
abbrev aV:X:=.bin .sub .i64 ai aU
abbrev aW:X:=.lit 2
abbrev aX:X:=.conv .u64 (.bin .and .i64 aT ax)
abbrev aY:X:=.bin .sub .i64 aV ai
abbrev aZ:X:=.bin .sub .u64 ax aX
abbrev bf:X:=.bin .sub .i64 ae aU
abbrev bg:X:=.bin .sub .i64 bf ai
abbrev bi:X:=.var kI 4
abbrev bq:X:=.lit 256
abbrev bu:X:=.min (.max bi ae) bq
abbrev bv:X:=.max (.lit (-256)) bu
abbrev bz:X:=.bin .shr .i64 bv aO
abbrev bE:X:=.conv .u64 (.bin .and .i64 bv ax)
abbrev bG:X:=.bin .sub .u64 ax bE
abbrev bH:X:=.bin .sub .i64 ai bz
abbrev bI:X:=.bin .sub .i64 aW bz
abbrev bJ:X:=.bin .sub .i64 bI ai
abbrev bK:X:=.lit 3
abbrev bL:X:=.bin .sub .i64 bK bz
abbrev bP:X:=.bin .sub .i64 bL ai
abbrev bT:X:=.max (.lit (-256)) (.min (.bin .sub .i64 ae bu) bq)
abbrev bU:X:=.bin .shr .i64 bT aO
abbrev bV:X:=.bin .sub .i64 ae bU
abbrev cz:X:=.lit 4
abbrev cO:X:=.conv .u64 (.bin .and .i64 bT ax)
abbrev df:X:=.bin .sub .i64 bV ai
abbrev dh:X:=.bin .sub .u64 ax cO
abbrev di:X:=.bin .sub .i64 ai bU
abbrev dw:X:=.bin .sub .i64 di ai
abbrev dx:X:=.bin .sub .i64 aW bU
abbrev dz:X:=.bin .sub .i64 dx ai
abbrev dA:X:=.bin .sub .i64 bK bU
abbrev dC:X:=.bin .sub .i64 dA ai
abbrev dD:SV:=.int .i64 ae
abbrev dE:X:=.var kB 0
abbrev dF:X:=.bin .lss .i64 dE cz
abbrev dG:X:=.not dF
abbrev dH:X:=.var .bool 1
abbrev dI:X:=.var .bool 2
abbrev dJ:X:=.var kB 1
abbrev dK:X:=.var kB 6
abbrev dL:X:=.bin .eql .u8 dK ae
abbrev dM:X:=.lit (-1)
abbrev dO:X:=.bin .eql .u8 dJ bK
abbrev dP:X:=.bin .eql .u8 dK bK
abbrev dQ:List X:=[dE]
abbrev dR:X:=.var kI 3
abbrev dS:X:=.bin .sub .i64 aL aj
abbrev dU:X:=.var kU 5
abbrev dV:SV:=.int .u64 dU
abbrev dW:rf SV:=.leaf (.agg [dV,aB])
abbrev dX:X:=.var kU 7
abbrev dY:List X:=[aC,dU,aA,dX]
abbrev dZ:X:=.var kU 8
abbrev ed:X:=.var kU 9
abbrev ek:X:=.var kU 10
abbrev eu:X:=.var kU 11
abbrev eB:X:=.var kU 13
abbrev eD:X:=.var kU 12
abbrev eF:X:=.var kU 16
abbrev eG:X:=.var kU 17
abbrev eH:X:=.var kU 18
abbrev eP:X:=.var kU 19
abbrev eQ:X:=.var kU 15
abbrev eU:X:=.var kU 14
abbrev eX:X:=.var kU 21
abbrev eY:SV:=.int .u64 eX
abbrev eZ:X:=.var kU 22
abbrev fe:SV:=.int .u64 eZ
abbrev fq:X:=.var kU 23
abbrev fu:SV:=.int .u64 fq
abbrev fw:X:=.var kU 24
abbrev fA:X:=.var kI 6
abbrev fB:SV:=.int .u64 dX
abbrev fC:SV:=.int .u64 dZ
abbrev fF:X:=.bin .sub .i64 bq fA
abbrev fG:SV:=.int .u64 eu
abbrev fH:SV:=.int .u64 eD
abbrev fI:List X:=[aa,ag,az,ay,bi]
abbrev fJ:List X:=[aa,ag,az,ay]
abbrev fK:X:=.bin .eql .i64 bi ae
abbrev fM:X:=.bin .sub .i64 bq bi
abbrev fO:SV:=.agg [dV,aB,fB,fC]
abbrev fQ:X:=.var .bool 7
abbrev fT:SV:=.int .u64 ed
abbrev fV:SV:=.bool ai
abbrev fZ:rf SV:=.leaf (.tup [(.agg [fC,fT]),fV])
abbrev gm:X:=.var .bool 10
abbrev gp:X:=.bin .neq .u64 az az
abbrev gq:X:=.ite (.bin .neq .u64 aa aa) (.ite gp ae dM) (.ite gp ai (.ite (.bin .lss .u64 aa az) dM (.ite (.bin .gtr .u64 aa az) ai ae)))
abbrev gy:X:=.bin .neq .u64 ay ay
abbrev gz:X:=.ite (.bin .neq .u64 ag ag) (.ite gy ae dM) (.ite gy ai (.ite (.bin .lss .u64 ag ay) dM (.ite (.bin .gtr .u64 ag ay) ai ae)))
abbrev gD:X:=.var kI 5
abbrev gF:SV:=.agg [aK,aK]
abbrev gH:X:=.bin .sub .i64 gD fA
abbrev gI:X:=.bin .sub .i64 fA ai
abbrev gJ:X:=.bin .sub .i64 gD ai
abbrev gK:SV:=.int .u64 eP
abbrev gL:X:=.var kU 20
abbrev gM:SV:=.int .u64 gL
abbrev gN:SV:=.int .u64 eU
abbrev gP:SV:=.int .u64 eQ
abbrev gQ:rf SV:=.call 74 [dZ,ed,gI] 10 2 (.call 59 [ay,aC,gI] 12 2 (.call 75 [ek,eu,eD,eB] 14 3 (.ite dH (.call 74 [ae,ai,gJ] 17 2 (.call 75 [eU,eQ,eG,eH] 19 3 (.leaf (.agg [gK,gM])))) (.leaf (.agg [gN,gP])))))
abbrev gT:rf SV:=.call 59 [ae,ae,gH] 8 2 gQ
abbrev gU:X:=.var .bool 9
abbrev gV:X:=.bin .lss .i64 bi ae
abbrev gW:SV:=.int .u8 ae
abbrev gX:X:=.bin .gtr .i64 bi (.lit 127)
abbrev gY:X:=.lit 255
abbrev gZ:X:=.bin .sub .i64 gY bi
abbrev ib:X:=.bin .and .i64 gZ ax
abbrev ic:X:=.var .bool 5
abbrev ig:rf SV:=.leaf (.tup [dD,(.agg [aK,aK,aK,aK])])
abbrev ik:X:=.var kI 7
abbrev il:SV:=.int .u64 ek
abbrev iq:SV:=.int .u64 eB
abbrev iw:rf SV:=.call 298 [ay,aC,dZ,ed] 10 4 (.leaf (.tup [(.int .i64 (.bin .add .i64 (.bin .add .i64 aj ik) ai)),(.agg [il,fG,fH,iq])]))
abbrev iy:rf SV:=.ite (.bin .neq .u8 dK ai) (.ite (.bin .neq .u8 dK aW) ig iw) iw
abbrev iA:X:=.bin .mul .i64 aW aj
abbrev iB:rf SV:=.leaf (.agg [aH,aD])
abbrev iC:X:=.lit 18446744073709551615
abbrev iD:List X:=[dE,ag,az]
abbrev iE:X:=.bin .sub .i64 bi ai
abbrev iF:X:=.var .bool 6
abbrev iG:rf SV:=.leaf (.agg [fB,fC])
abbrev iH:rf SV:=.leaf (.tup [gF,au])
abbrev iI:X:=.var kB 13
abbrev iJ:X:=.var .bool 14
abbrev iK:SV:=.int .u64 eF
abbrev iL:SV:=.bool (.bin .neq .u8 iI ae)
abbrev iM:X:=.var .bool 3
abbrev iN:SV:=.bool iM
abbrev iO:SV:=.int .u8 ai
abbrev iP:SV:=.int .u8 aW
abbrev iQ:SV:=.int .u8 bK
abbrev iR:X:=.var kI 9
abbrev iT:rf SV:=.leaf (.agg [aK,aK,gW])
abbrev iU:X:=.not (.bin .leq .u8 dJ cz)
abbrev iV:rf SV:=.leaf (.agg [aD,dV,(.int .u8 (.lit 20))])
abbrev iW:List X:=[dE,ay,aC]
abbrev iX:X:=.var kB 3
abbrev iY:X:=.lit 9223372036854775808
abbrev iZ:X:=.var .bool 4
abbrev ja:SV:=.int .u8 iX
abbrev jb:X:=.var kI 15
abbrev jc:X:=.var .bool 20
abbrev jd:X:=.lit (-1099511627776)
abbrev je:X:=.lit 1099511627776
abbrev jf:X:=.var kI 14
abbrev jg:X:=.bin .sub .i64 (.max jd (.min bi je)) jf
abbrev jh:X:=.bin .add .i64 jg ai
abbrev ji:X:=.var .bool 21
abbrev jk:rf SV:=.call 265 [dE,dJ,iM] 22 3 (.leaf (.agg [fe,fu,(.int .u8 (.var kB 24))]))
abbrev jl:X:=.bin .sub .i64 ai (.var kI 16)
abbrev jm:X:=.bin .lss .i64 jg jl
abbrev jo:List X:=[ek,eu,eD,eB,(.bin .sub .i64 jl jg)]
abbrev jq:X:=.var kU 25
abbrev jr:List X:=[eZ,fq,fw,jq,jb,dJ,iM]
abbrev jv:X:=.var kU 26
abbrev jw:X:=.var kU 27
abbrev jy:X:=.var kU 29
abbrev jA:SV:=.int .u64 jy
abbrev jB:X:=.var kU 30
abbrev jC:SV:=.int .u64 jB
abbrev jD:rf SV:=.leaf (.agg [jA,jC,(.int .u8 (.lit 24))])
abbrev jE:rf SV:=.leaf (.agg [jA,jC,gW])
abbrev jF:rf SV:=.call 266 jo 22 4 (.call 262 jr 26 3 (.call 267 [dE,iM,ae,jv,jw] 29 2 (.ite (.var .bool 28) jD jE)))
abbrev jG:SV:=.int .u8 (.lit 16)
abbrev jH:X:=.var .bool 19
abbrev jI:rf SV:=.leaf (.agg [fe,fu,gW])
abbrev jJ:rf SV:=.ite jH (.leaf (.agg [fe,fu,jG])) jI
abbrev jK:List X:=[dE,dU,aA]
abbrev jL:X:=.var kB 8
abbrev jM:X:=.var .bool 12
abbrev jN:List X:=[fQ,jL,iR,ek,eu,jM,iI,jf,eQ,eF]
abbrev jO:X:=.var .bool 17
abbrev jP:rf SV:=.leaf (.agg [eY,fe,iO])
abbrev jQ:X:=.var .bool 24
abbrev jR:rf SV:=.leaf (.agg [eY,fe,gW])
abbrev jS:rf SV:=.leaf (.agg [fe,fu,iO])
abbrev jT:X:=.var .bool 25
abbrev jU:X:=.bin .eql .u8 jL bK
abbrev jV:X:=.bin .eql .u8 iI bK
abbrev jW:X:=.not (.beq fQ jM)
abbrev jX:rf SV:=.leaf (.agg [gM,eY,gW])
abbrev jY:SV:=.int .u64 jv
abbrev jZ:X:=.not (.bin .lss .i64 dJ cz)
abbrev j4:rf SV:=.leaf (.tup [(.agg [aK,aK,gW]),au])
abbrev j5:List X:=[dE,az,ay]
abbrev j6:X:=.var kI 12
abbrev kg:X:=.var kB 2
abbrev ku:X:=.not (.bin .leq .u8 kg cz)
abbrev kv:List X:=[dE,aC,dU]
abbrev kw:X:=.bin .eql .u8 (.var kB 11) bK
abbrev ky:rf SV:=.leaf (.agg [gP,iK,gW])
abbrev kz:rf SV:=.leaf (.tup [(.agg [fB,fC,iO]),fV])
abbrev kC:rf SV:=.leaf (.tup [(.agg [fT,il,iO]),fV])
abbrev kF:X:=.var .bool 11
abbrev kG:rf SV:=.leaf (.tup [(.agg [il,fG,iO]),fV])
abbrev kH:X:=.var .bool 13
abbrev kJ:X:=.var .bool 8
abbrev kK:rf SV:=.leaf (.tup [(.agg [fG,fH,iO]),fV])
abbrev kL:List X:=[dE,aA,dX]
abbrev kM:X:=.var .bool 15
abbrev kN:rf SV:=.leaf (.tup [(.agg [fH,iq,iO]),fV])
abbrev kP:X:=.var .bool 16
abbrev kQ:rf SV:=.leaf (.tup [(.agg [iq,gN,iO]),fV])
abbrev kR:List X:=[ag,az,ay,aC]
abbrev kS:List X:=[aA,dX,dZ,ed]
abbrev kT:X:=.max jd (.min gD je)
abbrev kV:X:=.max jd (.min (.var kI 0) je)
abbrev kX:rf SV:=.leaf (.int .i64 (.max kV kT))
abbrev kY:List X:=[ag,az,ay,aC,(.bin .sub .i64 (.max kV kT) kV)]
abbrev kZ:List X:=[aA,dX,dZ,ed,(.bin .sub .i64 (.max kV kT) kT)]
abbrev lg:rf SV:=.leaf (.int .i64 ai)
abbrev lh:rf SV:=.leaf (.int .i64 (.var kI 20))
abbrev ll:List X:=[(.var kI 0),ag,az,ay,aC,gD,aA,dX,dZ,ed]
abbrev lq:X:=.bin .add .i64 (.var kI 10) ai
abbrev lu:X:=.bin .lss .i64 (.var kI 10) ae
abbrev lv:X:=.var kI 11
abbrev lw:X:=.bin .add .i64 lv ae
abbrev lC:List X:=[aA,dX,dZ,ed,(.bin .sub .i64 lw kT)]
abbrev lF:List X:=[ag,az,ay,aC,(.bin .sub .i64 lw kV)]
abbrev lG:rf SV:=.call 236 [eD,eB,eU,eQ,eF,eG,eH,eP] 20 5 (.leaf (.tup [(.agg [(.int .i64 lw),gM,eY,fe,fu]),(.bool lu)]))
abbrev lH:rf SV:=.leaf (.agg [(.int .u64 eG),(.int .u64 eH),(.int .u8 (.var kB 19))])
abbrev lI:rf SV:=.ite jc lH (.call 127 [dE,fQ] 21 2 jR)
abbrev lJ:List X:=[dE,ae,ay,aC,dU,aA]
abbrev lL:List X:=[ek,eu,ae,ae]
abbrev lN:List X:=[eQ,eF,ae,ae]
abbrev lQ:X:=.var kU 28
abbrev lS:List X:=[iR,eX,eZ,fq,fw,jf,jq,jv,jw,lQ]
abbrev lU:X:=.var kU 31
abbrev lV:X:=.var kU 32
abbrev lW:X:=.var kU 33
abbrev lX:X:=.var kU 36
abbrev lY:SV:=.int .u64 lX
abbrev lZ:SV:=.int .u64 (.var kU 37)
abbrev l5:rf SV:=.leaf (.agg [lY,lZ,(.int .u8 (.var kB 38))])
abbrev l6:X:=.var kU 35
abbrev l7:SV:=.int .u64 l6
abbrev l8:rf SV:=.call 204 [dE,dJ,dI,fQ,(.var kI 29),jB,lU,lV,lW] 35 3 (.leaf (.agg [l7,lY,(.int .u8 (.var kB 37))]))
abbrev l9:List X:=[iJ,(.var kB 15),(.var kI 16),eG,eH,jH,(.var kB 20),(.var kI 21),eZ,fq]
abbrev ma:X:=.bin .eql .u8 (.var kB 10) bK
abbrev mf:X:=.not (.beq iJ jH)
abbrev mg:List X:=[dE,ae,ay,aC,dU,aA,dX,dZ]
abbrev mh:X:=.var .bool 33
abbrev mi:X:=.var kU 34
abbrev mo:SV:=.int .u64 mi
abbrev mq:SV:=.int .u64 (.var kU 38)
abbrev mr:X:=.var kU 39
abbrev mD:SV:=.int .u64 lU
abbrev mF:rf SV:=.leaf (.agg [jC,mD,(.int .u8 (.var kB 32))])
abbrev mG:rf SV:=.leaf (.agg [mo,l7,gW])
abbrev mH:rf SV:=.ite mh mF (.call 127 [dE,mf] 34 2 mG)
abbrev mI:List X:=[dE,ai,ay,aC,dU,aA,dX,dZ]
abbrev mJ:rf SV:=.ite (.not (.var .bool 29)) (.ite ma (.ite (.not (.beq mf gU)) (.call 3000126 mg 30 4 (.call 3000126 [dE,(.not mh),ay,aC,dU,aA,dX,dZ] 34 4 (.ite (.var .bool 37) (.leaf (.agg [mo,l7,(.int .u8 (.var kB 36))])) (.call 127 [dE,mf] 38 2 (.leaf (.agg [mq,(.int .u64 mr),gW])))))) (.call 3000126 mg 30 4 mH)) (.call 3000126 mg 30 4 mH)) (.call 3000126 mI 30 4 mH)
abbrev mK:List X:=[eD,eB,ae,ae]
abbrev mM:rf SV:=.leaf (.agg [(.int .u64 (.var kU 54)),(.int .u64 (.var kU 55)),(.int .u8 (.var kB 56))])
abbrev mO:X:=.var kU 40
abbrev mP:X:=.var kU 41
abbrev mQ:SV:=.int .u64 (.var kU 44)
abbrev mR:SV:=.int .u64 (.var kU 45)
abbrev mU:rf SV:=.call 204 [dE,dJ,dI,mf,(.var kI 38),mr,mO,mP,(.var kU 42)] 44 3 (.leaf (.agg [mQ,mR,(.int .u8 (.var kB 46))]))
abbrev mV:rf SV:=.ite mh mF (.ite ma (.call 127 [dE,gU] 34 2 mG) (.call 225 mK 34 4 (.call 198 [(.var kI 24),jq,jv,jw,lQ,lv,mi,l6,lX,(.var kU 37)] 38 5 (.ite (.not (.beq mf gU)) (.call 225 mK 43 4 (.call 200 [(.var kI 24),jq,jv,jw,lQ,lv,(.var kU 43),(.var kU 44),(.var kU 45),(.var kU 46)] 47 6 (.call 202 [(.var kU 48),(.var kU 49),(.var kU 50),(.var kU 51)] 53 1 (.ite (.var .bool 53) (.call 204 [dE,dJ,dI,dO,(.var kI 47),(.var kU 48),(.var kU 49),(.var kU 50),(.var kU 51)] 54 3 mM) (.call 204 [dE,dJ,dI,(.not (.beq mf (.var .bool 52))),(.var kI 47),(.var kU 48),(.var kU 49),(.var kU 50),(.var kU 51)] 54 3 mM))))) (.call 202 [mr,mO,mP,(.var kU 42)] 43 1 (.ite (.var .bool 43) mU mU))))))
abbrev mW:rf SV:=.leaf (.agg [il,fG,(.int .u8 (.var kB 12))])
abbrev mX:rf SV:=.call 127 [dE,jW] 21 2 jR
abbrev mY:X:=.bin .eql .u8 jL ae
abbrev mZ:rf SV:=.call 227 [dE,jW] 21 2 jR
abbrev ng:List X:=[jq,jv,jw,lQ,(.lit 100)]
abbrev ni:X:=.not (.var .bool 36)
abbrev nk:X:=.bin .add .i64 (.bin .sub .i64 iR jf) (.lit 27)
abbrev nu:rf SV:=.leaf (.agg [lZ,mq,(.int .u8 (.var kB 39))])
abbrev ny:rf SV:=.ite mY mZ (.ite (.bin .eql .u8 iI ae) (.call 127 [dE,jW] 21 2 (.leaf (.agg [eY,fe,iP]))) (.call 225 lL 21 4 (.call 224 [eX,eZ,fq,fw,eQ,eF] 25 7 (.call 226 ng 32 4 (.call 79 [jy,jB] 36 1 (.ite ni (.call 204 [dE,dJ,dI,jW,nk,(.bin .or .u64 lV ai),lW,mi,l6] 37 3 nu) (.call 204 [dE,dJ,dI,jW,nk,lV,lW,mi,l6] 37 3 nu)))))))
abbrev nA:rf SV:=.call 26 iD 20 2 jX
abbrev nC:X:=.bin .sub .i64 j6 ai
abbrev nD:X:=.bin .lss .i64 ik nC
abbrev nE:X:=.bin .eql .i64 ik nC
abbrev nG:List X:=[dZ,ed,eB,eU]
abbrev nH:X:=.bin .add .i64 (.min ik j6) aL
abbrev nI:X:=.not (.beq ic ae)
abbrev nJ:X:=.bin .sub .i64 ik j6
abbrev nK:X:=.bin .gtr .i64 nJ ae
abbrev nL:rf SV:=.ite (.bin .neq .u8 (.var kB 38) ae) iT (.leaf (.agg [lY,lZ,gW]))
abbrev nM:rf SV:=.call 230 [jw,lQ] 31 4 (.call 202 [lU,lV,lW,mi] 35 1 (.call 204 [dE,cz,ae,(.not (.beq ic (.not (.var .bool 35)))),nH,lU,lV,lW,mi] 36 3 nL))
abbrev nO:rf SV:=.call 230 [fq,fw] 31 4 (.call 204 [dE,cz,ae,nI,nH,lU,lV,lW,mi] 35 3 (.ite (.bin .neq .u8 (.var kB 37) ae) iT (.leaf (.agg [l7,lY,gW]))))
abbrev nP:rf SV:=.call 309 [eB,eU,fq,fw] 27 3 (.call 234 [fq,fw,jw,lQ] 30 1 (.ite (.bin .gtr .i64 (.var kI 30) ae) nM (.ite (.bin .eql .i64 (.var kI 30) ae) (.ite jT nM nO) nO)))
abbrev nQ:X:=.bin .gtr .i64 (.var kI 26) ae
abbrev nR:SV:=.int .u64 lW
abbrev nS:rf SV:=.ite (.bin .neq .u8 (.var kB 34) ae) iT (.leaf (.agg [(.int .u64 lV),nR,gW]))
abbrev nT:rf SV:=.call 230 [fq,fw] 27 4 (.call 202 [jw,lQ,jy,jB] 31 1 (.call 204 [dE,cz,ae,(.not (.beq ic (.not (.var .bool 31)))),nH,jw,lQ,jy,jB] 32 3 nS))
abbrev nU:X:=.bin .eql .i64 (.var kI 26) ae
abbrev nV:rf SV:=.call 204 [dE,cz,ae,nI,nH,jw,lQ,jy,jB] 31 3 (.ite (.bin .neq .u8 (.var kB 33) ae) iT (.leaf (.agg [mD,(.int .u64 lV),gW])))
abbrev nX:rf SV:=.call 230 [dZ,ed] 27 4 nV
abbrev nY:rf SV:=.call 26 iD 21 2 jR
abbrev nZ:X:=.bin .neq .u8 (.var kB 28) ae
abbrev og:rf SV:=.leaf (.agg [jY,(.int .u64 jw),gW])
abbrev oh:rf SV:=.call 230 [lQ,jy] 32 4 (.call 202 [lV,lW,mi,l6] 36 1 (.call 204 [dE,cz,ae,(.not (.beq ic ni)),nH,lV,lW,mi,l6] 37 3 (.ite (.bin .neq .u8 (.var kB 39) ae) iT (.leaf (.agg [lZ,mq,gW])))))
abbrev ol:rf SV:=.call 230 [fw,jq] 32 4 (.call 204 [dE,cz,ae,nI,nH,lV,lW,mi,l6] 36 3 nL)
abbrev om:rf SV:=.call 309 [eB,eU,fw,jq] 28 3 (.call 234 [fw,jq,lQ,jy] 31 1 (.ite (.bin .gtr .i64 (.var kI 31) ae) oh (.ite (.bin .eql .i64 (.var kI 31) ae) (.ite (.var .bool 26) oh ol) ol)))
abbrev oo:X:=.bin .gtr .i64 (.var kI 27) ae
abbrev oq:rf SV:=.call 230 [fw,jq] 28 4 (.call 202 [lQ,jy,jB,lU] 32 1 (.call 204 [dE,cz,ae,(.not (.beq ic (.not (.var .bool 32)))),nH,lQ,jy,jB,lU] 33 3 (.ite (.bin .neq .u8 (.var kB 35) ae) iT (.leaf (.agg [nR,mo,gW])))))
abbrev ou:X:=.bin .eql .i64 (.var kI 27) ae
abbrev ow:rf SV:=.call 204 [dE,cz,ae,nI,nH,lQ,jy,jB,lU] 32 3 nS
abbrev oz:rf SV:=.call 230 [dZ,ed] 28 4 ow
abbrev oC:rf SV:=.ite kw nY (.ite nD nY (.ite nE (.call 230 [dZ,ed] 21 4 (.call 234 nG 25 1 (.ite (.bin .gtr .i64 (.var kI 25) ae) (.call 230 [eB,eU] 26 4 (.call 230 [eB,eU] 30 4 (.call 235 [jv,jw,lQ,jy,jB,lU,lV,lW] 34 5 (.call 236 [mi,l6,lX,(.var kU 37),eX,eZ,fq,fw] 39 5 (.call 202 [mr,mO,mP,(.var kU 42)] 44 1 (.call 204 [dE,cz,ae,(.not (.beq ic (.not (.var .bool 44)))),nH,mr,mO,mP,(.var kU 42)] 45 3 (.ite (.bin .neq .u8 (.var kB 47) ae) iT (.leaf (.agg [mR,(.int .u64 (.var kU 46)),gW]))))))))) (.call 204 [dE,cz,ae,nI,nH,eX,eZ,fq,fw] 26 3 (.ite nZ iT og))))) (.call 309 nG 21 3 (.ite (.not (.var .bool 23)) (.ite nK (.call 310 [eX,eZ,nJ,eB,eU] 24 4 om) (.call 309 [eB,eU,eX,eZ] 24 3 (.call 234 [eX,eZ,fw,jq] 27 1 (.ite oo oq (.ite ou oq (.call 230 [eX,eZ] 28 4 ow)))))) (.ite nK (.call 310 [dZ,ed,nJ,eB,eU] 24 4 om) (.call 309 [eB,eU,dZ,ed] 24 3 (.call 234 [dZ,ed,fw,jq] 27 1 (.ite oo oq (.ite ou oz oz)))))))))
abbrev oD:rf SV:=.ite jc lH (.ite dL nY oC)
abbrev oF:rf SV:=.leaf (.agg [gN,gP,gW])
abbrev oG:List X:=[dZ,ed,ae,ae]
abbrev oH:X:=.bin .sub .i64 ik gY
abbrev oI:X:=.bin .add .i64 (.bin .quo .i64 (.bin .add .i64 oH ai) aW) (.lit 155)
abbrev oJ:rf SV:=.leaf (.agg [nR,mo,(.int .u8 (.var kB 35))])
abbrev oK:X:=.bin .add .i64 (.bin .quo .i64 oH aW) (.lit 155)
abbrev oL:rf SV:=.leaf (.agg [jA,jC,(.int .u8 (.var kB 31))])
abbrev oM:rf SV:=.ite dP (.call 127 [dE,ic] 14 2 oF) (.call 225 oG 14 4 (.ite (.bin .neq .i64 (.bin .rem .i64 oH aW) ae) (.call 228 [eU,eQ,eF,eG,ai] 18 4 (.call 229 [eH,eP,gL,eX] 22 3 (.call 230 [eZ,fq] 25 4 (.call 226 ng 29 4 (.ite (.not jQ) (.call 204 [dE,dJ,dI,ae,oI,(.bin .or .u64 jy ai),jB,lU,lV] 33 3 oJ) (.call 204 [dE,dJ,dI,ae,oI,jy,jB,lU,lV] 33 3 oJ)))))) (.call 229 [eU,eQ,eF,eG] 18 3 (.call 230 [eH,eP] 21 4 (.call 226 [eX,eZ,fq,fw,(.lit 100)] 25 4 (.ite (.not jc) (.call 204 [dE,dJ,dI,ae,oK,(.bin .or .u64 jq ai),jv,jw,lQ] 29 3 oL) (.call 204 [dE,dJ,dI,ae,oK,jq,jv,jw,lQ] 29 3 oL)))))))
abbrev oN:List X:=[dE,ae,ay,aC]
abbrev oO:rf SV:=.call 227 [dE,ic] 14 2 oF
abbrev oP:X:=.conv .u64 (.conv .i64 (.conv .i32 aC))
abbrev oQ:X:=.bin .eql .u64 (.bin .shr .u64 oP ax) ai
abbrev oU:rf SV:=.leaf (.agg [dV,aB,(.int .u8 (.var kB 7))])
abbrev oV:X:=.bin .eql .u8 dE ai
abbrev oZ:X:=.bin .eql .u8 dE aW
abbrev o9:X:=.bin .eql .u64 (.bin .shr .u64 aC ax) ai
abbrev pg:rf SV:=.leaf (.bool (.bin .eql .u64 ag ag))
abbrev pq:X:=.bin .eql .u8 dE bK
abbrev pu:rf SV:=.leaf (.agg [aK,gW])
abbrev pz:X:=.bin .eql .i64 dJ ae
abbrev pE:X:=.bin .eql .i64 dJ ai
abbrev pF:X:=.bin .eql .i64 dJ aW
abbrev pG:X:=.ite pz (.lit 2147483648) (.ite pE ae (.ite pF iY ae))
abbrev pI:rf SV:=.leaf (.agg [(.int .u64 (.bin .sub .u64 ae pG)),iO])
abbrev pJ:X:=.bin .gtr .i64 ik (.lit 64)
abbrev pK:X:=.bin .lss .i64 ik ae
abbrev pM:List X:=[ek,eu,eD,eB,(.bin .sub .i64 (.bin .sub .i64 ae ik) ai)]
abbrev pO:List X:=[eU,eQ,eF,eG,ae,kg,ic]
abbrev pQ:X:=.bin .gtr .i64 (.var kI 21) ae
abbrev pR:SV:=.int .u64 (.bin .sub .u64 ae eP)
abbrev pU:List X:=[ek,eu,eD,eB,(.bin .add .i64 ik ai),kg,ic]
abbrev pV:X:=.bin .gtr .i64 (.var kI 17) ae
abbrev pW:SV:=.int .u64 (.bin .sub .u64 ae eQ)
abbrev pX:X:=.ite pz (.lit 2147483647) (.ite pE (.lit 4294967295) (.ite pF (.lit 9223372036854775807) iC))
abbrev pY:rf SV:=.leaf (.agg [(.int .u64 pX),iO])
abbrev qa:rf SV:=.ite dI (.leaf (.agg [aK,aK,jG])) iT
abbrev qc:rf SV:=.leaf (.agg [jC,mD,gW])
abbrev qd:rf SV:=.leaf (.tup [gW,gW])
abbrev qf:rf SV:=.leaf (.tup [iQ,iO])
abbrev qg:rf SV:=.ite fQ qf (.leaf (.tup [iQ,gW]))
abbrev qh:rf SV:=.ite kJ qf (.leaf (.tup [iQ,gW]))
abbrev qi:rf SV:=.ite fQ qd (.leaf (.tup [iP,gW]))
abbrev qj:rf SV:=.leaf (.tup [iO,gW])
abbrev ql:rf SV:=.ite jW qi (.ite fQ (.leaf (.tup [iP,gW])) qd)
abbrev qm:rf SV:=.ite jW qi (.ite fQ (.leaf (.tup [(.int .u8 (.bin .add .u8 ai (.conv .u8 (.bin .sub .i64 ae (.var kI 25))))),gW])) (.leaf (.tup [(.int .u8 (.bin .add .u8 ai (.conv .u8 (.var kI 25)))),gW])))
abbrev qo:rf SV:=.call 125 iD 7 5 (.call 125 iW 12 5 (.ite jU (.ite jV (.ite jW qi (.ite fQ qj qj)) (.ite jW qi qi)) (.ite jV (.ite mY ql ql) (.call 225 lL 17 4 (.call 225 lN 21 4 (.call 258 [iR,eG,eH,eP,gL,jf,eX,eZ,fq,fw] 25 1 (.ite mY (.ite (.bin .eql .u8 iI ae) qj qm) qm)))))))
abbrev qp:X:=.not (.bin .leq .u8 iX cz)
abbrev qw:X:=.bin .gtr .u8 (.var kB 4) ai
abbrev qx:X:=.not (.bin .eql .u8 kg ae)
abbrev qy:List X:=[dJ,dU,aA]
abbrev qz:List X:=[dJ,dX,dZ]
abbrev qA:X:=.not (.and (.bin .eql .u64 ed ae) (.and (.bin .eql .u64 ek ae) ai))
abbrev qB:rf SV:=.ite jZ lg (.ite qp lg (.ite qw lg (.ite qx lg (.call 115 qy 11 1 (.ite kF (.call 115 qz 12 1 (.ite jM (.ite qA lg (.leaf dD)) lg)) lg)))))
abbrev qC:X:=.bin .eql .u8 dE (.lit 5)
abbrev qD:X:=.and (.bin .eql .u64 dX ae) (.and (.bin .eql .u64 dZ ae) ai)
abbrev qE:rf SV:=.ite kF (.ite qD (.ite qA lg (.leaf dD)) lg) lg
abbrev qF:rf SV:=.ite jZ lg (.ite qp lg (.ite qw lg (.ite qx lg (.call 115 qy 11 1 qE))))
abbrev qG:X:=.bin .eql .u8 dE (.lit 7)
abbrev qH:X:=.bin .eql .u8 dE (.lit 8)
abbrev qI:X:=.bin .eql .u8 dE (.lit 9)
abbrev qJ:X:=.bin .eql .u8 dE (.lit 10)
abbrev qK:X:=.not (.bin .lss .i64 kg cz)
abbrev qL:rf SV:=.ite jZ lg (.ite qp lg (.ite qw lg (.ite qK lg (.call 115 qy 11 1 qE))))
abbrev qM:X:=.bin .eql .u8 dE (.lit 11)
abbrev qN:X:=.bin .eql .u8 dE (.lit 12)
abbrev qO:X:=.bin .eql .u64 dU ae
abbrev qP:X:=.bin .eql .u8 dE (.lit 13)
abbrev qQ:X:=.bin .eql .u8 dE (.lit 14)
abbrev qR:rf SV:=.leaf (.agg [(.int .i64 ai),aK,aK,gW])
abbrev qU:X:=.bin .eql .u8 (.var kB 4) ai
abbrev qV:List X:=[dJ,iX,qU,dU,aA,dX,dZ]
abbrev qW:rf SV:=.leaf (.agg [dD,iq,gN,(.int .u8 (.var kB 15))])
abbrev qX:SV:=.int .u8 (.var kB 14)
abbrev qY:rf SV:=.leaf (.agg [dD,fH,iq,qX])
abbrev qZ:List X:=[dJ,dU,aA,dX,dZ]
abbrev q8:rf SV:=.leaf (.agg [dD,aK,(.int .u64 iI),qX])
def Q9:rf SV :=
 (.leaf (.bool (.and af (.and ah ai))))
theorem aeu:rY (ctx E0) 3000 79 (rO EJ.a (rM 0 (ru EJ.a))) (ru EJ.a).length=Q9:=by kernel_rfl
def MW:List Int→List Int:=rH (si E0) EJ Q9
theorem VP:rG Tryz.prog gG ⟨79,EJ,MW⟩:=sK (sM xq) 3000 aeu (by kernel_rfl)
def GU:Ct:=⟨[.agg [kU,kU],.sc kI],[.sc .bool]⟩
def VQ:rf SV :=
 (.ite ak av (.ite (.bin .gtr .i64 aj (.lit 127)) av (.ite (.bin .gtr .i64 aj ax) (.leaf (.bool (.bin .eql .u64 (.bin .and .u64 (.bin .shr .u64 aa (.bin .sub .i64 aj (.lit 64))) ai) ai))) (.leaf (.bool (.bin .eql .u64 (.bin .and .u64 (.bin .shr .u64 ag aj) ai) ai))))))
theorem aev:rY (ctx E0) 3000 73 (rO GU.a (rM 0 (ru GU.a))) (ru GU.a).length=VQ:=by kernel_rfl
def VR:List Int→List Int:=rH (si E0) GU VQ
theorem aew:rG Tryz.prog gG ⟨73,GU,VR⟩:=sK (sM xq) 3000 aev (by kernel_rfl)
def GV:Ct:=⟨[.agg [kU,kU],.agg [kU,kU]],[.agg [kU,kU],.sc .bool]⟩
def Ra:rf SV :=
 (.call 124 [ag,ay,ae] 4 2 (.call 124 [aa,az,(.var .bit 5)] 6 2 aF))
theorem aex:rY (ctx E0) 3000 75 (rO GV.a (rM 0 (ru GV.a))) (ru GV.a).length=Ra:=by kernel_rfl
def GX:List Int→List Int:=rH (si E0) GV Ra
theorem aey:rG Tryz.prog gG ⟨75,GV,GX⟩:=sK (sM xq) 3000 aex (by kernel_rfl)
def GY:Ct:=⟨[.agg [kU,kU],.agg [kU,kU]],[.agg [kU,kU],.sc .bool]⟩
def Rb:rf SV :=
 (.call 308 [ag,ay,ae] 4 2 (.call 308 [aa,az,(.var .bit 5)] 6 2 aF))
theorem aez:rY (ctx E0) 3000 309 (rO GY.a (rM 0 (ru GY.a))) (ru GY.a).length=Rb:=by kernel_rfl
def GZ:List Int→List Int:=rH (si E0) GY Rb
theorem aeA:rG Tryz.prog gG ⟨309,GY,GZ⟩:=sK (sM xq) 3000 aez (by kernel_rfl)
def G9:Ct:=⟨[.sc kU,.sc kU],[.agg [kU,kU]]⟩
def Rc:rf SV :=
 (.call 367 [aa,ag] 2 2 (.leaf (.agg [aG,aH])))
theorem aeB:rY (ctx E0) 3000 347 (rO G9.a (rM 0 (ru G9.a))) (ru G9.a).length=Rc:=by kernel_rfl
def Ha:List Int→List Int:=rH (si E0) G9 Rc
theorem aeC:rG Tryz.prog gG ⟨347,G9,Ha⟩:=sK (sM xq) 3000 aeB (by kernel_rfl)
def Hd:Ct:=⟨[.agg [kU,kU],.agg [kU,kU]],[.agg [kU,kU,kU,kU]]⟩
def Re:rf SV :=
 (.leaf (.agg [aH,aG,aI,aJ]))
theorem aeD:rY (ctx E0) 3000 225 (rO Hd.a (rM 0 (ru Hd.a))) (ru Hd.a).length=Re:=by kernel_rfl
def He:List Int→List Int:=rH (si E0) Hd Re
theorem aeE:rG Tryz.prog gG ⟨225,Hd,He⟩:=sK (sM xq) 3000 aeD (by kernel_rfl)
def Hf:Ct:=⟨[.agg [kU,kU]],[.agg [kU,kU,kU,kU]]⟩
def VS:rf SV :=
 (.leaf (.agg [aI,aJ,aK,aK]))
theorem aeF:rY (ctx E0) 3000 230 (rO Hf.a (rM 0 (ru Hf.a))) (ru Hf.a).length=VS:=by kernel_rfl
def VT:List Int→List Int:=rH (si E0) Hf VS
theorem aeG:rG Tryz.prog gG ⟨230,Hf,VT⟩:=sK (sM xq) 3000 aeF (by kernel_rfl)
def Hg:Ct:=⟨[.agg [kU,kU,kU,kU]],[.agg [kU,kU]]⟩
def Rf:rf SV :=
 (.leaf (.agg [aH,aG]))
theorem aeH:rY (ctx E0) 3000 255 (rO Hg.a (rM 0 (ru Hg.a))) (ru Hg.a).length=Rf:=by kernel_rfl
def Dr:List Int→List Int:=rH (si E0) Hg Rf
theorem aeI:rG Tryz.prog gG ⟨255,Hg,Dr⟩:=sK (sM xq) 3000 aeH (by kernel_rfl)
def Hl:Ct:=⟨[.agg [kU,kU,kU,kU]],[.agg [kU,kU]]⟩
def Rh:rf SV :=
 (.leaf (.agg [aI,aJ]))
theorem aeJ:rY (ctx E0) 3000 321 (rO Hl.a (rM 0 (ru Hl.a))) (ru Hl.a).length=Rh:=by kernel_rfl
def Dt:List Int→List Int:=rH (si E0) Hl Rh
theorem aeK:rG Tryz.prog gG ⟨321,Hl,Dt⟩:=sK (sM xq) 3000 aeJ (by kernel_rfl)
def Hm:Ct:=⟨[.agg [kU,kU,kU,kU]],[.sc .bool]⟩
def VU:rf SV :=
 (.leaf (.bool (.and af (.and ah (.and (.bin .eql .u64 az ae) (.and (.bin .eql .u64 ay ae) ai))))))
theorem aeL:rY (ctx E0) 3000 202 (rO Hm.a (rM 0 (ru Hm.a))) (ru Hm.a).length=VU:=by kernel_rfl
def VV:List Int→List Int:=rH (si E0) Hm VU
theorem aeM:rG Tryz.prog gG ⟨202,Hm,VV⟩:=sK (sM xq) 3000 aeL (by kernel_rfl)
def EK:Ct:=⟨[.agg [kU,kU],.sc kI],[.agg [kU,kU]]⟩
def Ri:rf SV :=
 (.leaf (.agg [(.int .u64 (.bin .or .u64 (.bin .shl .u64 (.ite (.bin .lss .i64 aQ ae) ae (.ite (.bin .eql .i64 aQ ae) ag aa)) aR) (.bin .shr .u64 (.bin .shr .u64 (.ite (.bin .lss .i64 (.bin .sub .i64 aQ ai) ae) ae ag) ai) aS))),(.int .u64 (.bin .or .u64 (.bin .shl .u64 (.ite (.bin .lss .i64 (.bin .sub .i64 ae aP) ae) ae ag) aR) (.bin .shr .u64 ae aS)))]))
theorem aeN:rY (ctx E0) 3000 74 (rO EK.a (rM 0 (ru EK.a))) (ru EK.a).length=Ri:=by kernel_rfl
def MZ:List Int→List Int:=rH (si E0) EK Ri
theorem VW:rG Tryz.prog gG ⟨74,EK,MZ⟩:=sK (sM xq) 3000 aeN (by kernel_rfl)
def Ho:Ct:=⟨[.agg [kU,kU],.sc kI],[.agg [kU,kU]]⟩
def VX:rf SV :=
 (.leaf (.agg [(.int .u64 (.bin .or .u64 (.bin .shl .u64 (.ite (.bin .geq .i64 aV aW) ae aa) aX) (.bin .shr .u64 (.bin .shr .u64 (.ite (.bin .geq .i64 aY aW) ae (.ite (.bin .eql .i64 aY ae) ag aa)) ai) aZ))),(.int .u64 (.bin .or .u64 (.bin .shl .u64 (.ite (.bin .geq .i64 bf aW) ae (.ite (.bin .eql .i64 bf ae) ag aa)) aX) (.bin .shr .u64 (.bin .shr .u64 (.ite (.bin .lss .i64 bg ae) ae (.ite (.bin .eql .i64 bg ae) ag aa)) ai) aZ)))]))
theorem aeO:rY (ctx E0) 3000 72 (rO Ho.a (rM 0 (ru Ho.a))) (ru Ho.a).length=VX:=by kernel_rfl
def VY:List Int→List Int:=rH (si E0) Ho VX
theorem aeP:rG Tryz.prog gG ⟨72,Ho,VY⟩:=sK (sM xq) 3000 aeO (by kernel_rfl)
def Hq:Ct:=⟨[.agg [kU,kU,kU,kU],.sc kI],[.agg [kU,kU,kU,kU]]⟩
def VZ:rf SV :=
 (.leaf (.agg [(.int .u64 (.bin .or .u64 (.bin .shl .u64 (.ite (.bin .lss .i64 (.bin .sub .i64 ae bz) ae) ae aa) bE) (.bin .shr .u64 ae bG))),(.int .u64 (.bin .or .u64 (.bin .shl .u64 (.ite (.bin .lss .i64 bH ae) ae (.ite (.bin .eql .i64 bH ae) aa ag)) bE) (.bin .shr .u64 (.bin .shr .u64 (.ite (.bin .lss .i64 (.bin .sub .i64 bH ai) ae) ae aa) ai) bG))),(.int .u64 (.bin .or .u64 (.bin .shl .u64 (.ite (.bin .lss .i64 bI ae) ae (.ite (.bin .eql .i64 bI ae) aa (.ite (.bin .eql .i64 bI ai) ag az))) bE) (.bin .shr .u64 (.bin .shr .u64 (.ite (.bin .lss .i64 bJ ae) ae (.ite (.bin .eql .i64 bJ ae) aa ag)) ai) bG))),(.int .u64 (.bin .or .u64 (.bin .shl .u64 (.ite (.bin .lss .i64 bL ae) ae (.ite (.bin .eql .i64 bL ae) aa (.ite (.bin .eql .i64 bL ai) ag (.ite (.bin .eql .i64 bL aW) az ay)))) bE) (.bin .shr .u64 (.bin .shr .u64 (.ite (.bin .lss .i64 bP ae) ae (.ite (.bin .eql .i64 bP ae) aa (.ite (.bin .eql .i64 bP ai) ag az))) ai) bG)))]))
theorem aeQ:rY (ctx E0) 3000 226 (rO Hq.a (rM 0 (ru Hq.a))) (ru Hq.a).length=VZ:=by kernel_rfl
def V3:List Int→List Int:=rH (si E0) Hq VZ
theorem aeR:rG Tryz.prog gG ⟨226,Hq,V3⟩:=sK (sM xq) 3000 aeQ (by kernel_rfl)
def Hr:Ct:=⟨[.agg [kU,kU,kU,kU],.sc kI],[.agg [kU,kU,kU,kU]]⟩
def V5:rf SV :=
 (.leaf (.agg [(.int .u64 (.bin .or .u64 (.bin .shl .u64 (.ite (.bin .geq .i64 bV cz) ae (.ite (.bin .eql .i64 bV ae) aa (.ite (.bin .eql .i64 bV ai) ag (.ite (.bin .eql .i64 bV aW) az ay)))) cO) (.bin .shr .u64 (.bin .shr .u64 (.ite (.bin .lss .i64 df ae) ae (.ite (.bin .eql .i64 df ae) aa (.ite (.bin .eql .i64 df ai) ag (.ite (.bin .eql .i64 df aW) az ay)))) ai) dh))),(.int .u64 (.bin .or .u64 (.bin .shl .u64 (.ite (.bin .geq .i64 di cz) ae (.ite (.bin .eql .i64 di ai) ag (.ite (.bin .eql .i64 di aW) az ay))) cO) (.bin .shr .u64 (.bin .shr .u64 (.ite (.bin .geq .i64 dw cz) ae (.ite (.bin .eql .i64 dw ae) aa (.ite (.bin .eql .i64 dw ai) ag (.ite (.bin .eql .i64 dw aW) az ay)))) ai) dh))),(.int .u64 (.bin .or .u64 (.bin .shl .u64 (.ite (.bin .geq .i64 dx cz) ae (.ite (.bin .eql .i64 dx aW) az ay)) cO) (.bin .shr .u64 (.bin .shr .u64 (.ite (.bin .geq .i64 dz cz) ae (.ite (.bin .eql .i64 dz ai) ag (.ite (.bin .eql .i64 dz aW) az ay))) ai) dh))),(.int .u64 (.bin .or .u64 (.bin .shl .u64 (.ite (.bin .geq .i64 dA cz) ae ay) cO) (.bin .shr .u64 (.bin .shr .u64 (.ite (.bin .geq .i64 dC cz) ae (.ite (.bin .eql .i64 dC aW) az ay)) ai) dh)))]))
theorem aeS:rY (ctx E0) 3000 228 (rO Hr.a (rM 0 (ru Hr.a))) (ru Hr.a).length=V5:=by kernel_rfl
def V6:List Int→List Int:=rH (si E0) Hr V5
theorem aeT:rG Tryz.prog gG ⟨228,Hr,V6⟩:=sK (sM xq) 3000 aeS (by kernel_rfl)
def Hu:Ct:=⟨[.agg [kU,kU,kU,kU]],[.sc kI]⟩
def V7:rf SV :=
 (.ite (.bin .neq .u64 ay ae) (.call 342 [ay] 4 1 (.leaf (.int .i64 (.bin .add .i64 (.lit 192) bi)))) (.ite (.bin .neq .u64 az ae) (.call 342 [az] 4 1 (.leaf (.int .i64 (.bin .add .i64 aL bi)))) (.ite (.bin .neq .u64 ag ae) (.call 342 [ag] 4 1 (.leaf (.int .i64 (.bin .add .i64 (.lit 64) bi)))) (.ite (.bin .neq .u64 aa ae) (.call 342 [aa] 4 1 (.leaf (.int .i64 (.bin .add .i64 ae bi)))) (.leaf dD)))))
theorem aeU:rY (ctx E0) 3000 254 (rO Hu.a (rM 0 (ru Hu.a))) (ru Hu.a).length=V7:=by kernel_rfl
def V8:List Int→List Int:=rH (si E0) Hu V7
theorem aeV:rG Tryz.prog gG ⟨254,Hu,V8⟩:=sK (sM xq) 3000 aeU (by kernel_rfl)
def Hw:Ct:=⟨[.sc kB],[.agg [kI,kI,kI]]⟩
def Rj:rf SV :=
 (.ite dG (.leaf (.agg [dD,dD,dD])) (.ite (.bin .eql .i64 dE ae) (.leaf (.agg [(.int .i64 (.lit 16)),(.int .i64 (.lit 11)),(.int .i64 (.lit 15))])) (.ite (.bin .eql .i64 dE ai) (.leaf (.agg [(.int .i64 (.lit 32)),(.int .i64 (.lit 24)),(.int .i64 (.lit 127))])) (.ite (.bin .eql .i64 dE aW) (.leaf (.agg [(.int .i64 (.lit 64)),(.int .i64 (.lit 53)),(.int .i64 (.lit 1023))])) (.leaf (.agg [(.int .i64 aL),(.int .i64 (.lit 113)),(.int .i64 (.lit 16383))]))))))
theorem aeW:rY (ctx E0) 3000 71 (rO Hw.a (rM 0 (ru Hw.a))) (ru Hw.a).length=Rj:=by kernel_rfl
def Hy:List Int→List Int:=rH (si E0) Hw Rj
theorem aeX:rG Tryz.prog gG ⟨71,Hw,Hy⟩:=sK (sM xq) 3000 aeW (by kernel_rfl)
def Hz:Ct:=⟨[.sc kB,.sc .bool],[.sc .bool]⟩
def V9:rf SV :=
 (.call 323 [dE,dH,ai,bK] 2 1 (.leaf (.bool dI)))
theorem aeY:rY (ctx E0) 3000 327 (rO Hz.a (rM 0 (ru Hz.a))) (ru Hz.a).length=V9:=by kernel_rfl
def Wd:List Int→List Int:=rH (si E0) Hz V9
theorem aeZ:rG Tryz.prog gG ⟨327,Hz,Wd⟩:=sK (sM xq) 3000 aeY (by kernel_rfl)
def HV:Ct:=⟨[.agg [.bool,kB,kI,kU,kU],.agg [.bool,kB,kI,kU,kU]],[.sc .bool]⟩
def We:rf SV :=
 (.ite (.bin .geq .i64 (.ite (.bin .eql .u8 dJ ae) ae (.ite dL ai dM)) ae) (.leaf (.bool (.bin .geq .i64 (.ite dO ae (.ite dP ai dM)) ae))) av)
theorem ae0:rY (ctx E0) 3000 220 (rO HV.a (rM 0 (ru HV.a))) (ru HV.a).length=We:=by kernel_rfl
def Wh:List Int→List Int:=rH (si E0) HV We
theorem ae1:rG Tryz.prog gG ⟨220,HV,Wh⟩:=sK (sM xq) 3000 ae0 (by kernel_rfl)
def E1:List sj:=⟨79,EJ,MW⟩::⟨73,GU,VR⟩::⟨75,GV,GX⟩::⟨309,GY,GZ⟩::⟨347,G9,Ha⟩::⟨225,Hd,He⟩::⟨230,Hf,VT⟩::⟨255,Hg,Dr⟩::⟨321,Hl,Dt⟩::⟨202,Hm,VV⟩::⟨74,EK,MZ⟩::⟨72,Ho,VY⟩::⟨226,Hq,V3⟩::⟨228,Hr,V6⟩::⟨254,Hu,V8⟩::⟨71,Hw,Hy⟩::⟨327,Hz,Wd⟩::⟨220,HV,Wh⟩::E0
theorem Al:∀ e∈E1,rG Tryz.prog gG e:=List.forall_mem_cons.2 ⟨VP,List.forall_mem_cons.2 ⟨aew,List.forall_mem_cons.2 ⟨aey,List.forall_mem_cons.2 ⟨aeA,List.forall_mem_cons.2 ⟨aeC,List.forall_mem_cons.2 ⟨aeE,List.forall_mem_cons.2 ⟨aeG,List.forall_mem_cons.2 ⟨aeI,List.forall_mem_cons.2 ⟨aeK,List.forall_mem_cons.2 ⟨aeM,List.forall_mem_cons.2 ⟨VW,List.forall_mem_cons.2 ⟨aeP,List.forall_mem_cons.2 ⟨aeR,List.forall_mem_cons.2 ⟨aeT,List.forall_mem_cons.2 ⟨aeV,List.forall_mem_cons.2 ⟨aeX,List.forall_mem_cons.2 ⟨aeZ,List.forall_mem_cons.2 ⟨ae1,xq⟩⟩⟩⟩⟩⟩⟩⟩⟩⟩⟩⟩⟩⟩⟩⟩⟩⟩
theorem Wi:si E0 124=EG:=Bn (e:=⟨124,_,EG⟩) rfl
theorem Wj:si E0 308=EH:=Bn (e:=⟨308,_,EH⟩) rfl
theorem ae2:si E0 367=GQ:=Bn (e:=⟨367,_,GQ⟩) rfl
open Go.RowKit
def HY:Ct:=⟨[.sc kB],[.sc kI]⟩
def Wl:rf SV :=
 (.call 71 dQ 1 3 (.leaf (.int .i64 dR)))
theorem ae3:rY (ctx E1) 3000 80 (rO HY.a (rM 0 (ru HY.a))) (ru HY.a).length=Wl:=by kernel_rfl
def Wm:List Int→List Int:=rH (si E1) HY Wl
theorem ae4:rG Tryz.prog gG ⟨80,HY,Wm⟩:=sK (sM Al) 3000 ae3 (by kernel_rfl)
def HZ:Ct:=⟨[.sc kB],[.sc kI]⟩
def Wn:rf SV :=
 (.call 71 dQ 1 3 (.leaf (.int .i64 aj)))
theorem ae5:rY (ctx E1) 3000 81 (rO HZ.a (rM 0 (ru HZ.a))) (ru HZ.a).length=Wn:=by kernel_rfl
def Wo:List Int→List Int:=rH (si E1) HZ Wn
theorem ae6:rG Tryz.prog gG ⟨81,HZ,Wo⟩:=sK (sM Al) 3000 ae5 (by kernel_rfl)
def Du:Ct:=⟨[.sc kB],[.sc kI]⟩
def Rk:rf SV :=
 (.call 71 dQ 1 3 (.leaf (.int .i64 (.var kI 1))))
theorem ae7:rY (ctx E1) 3000 60 (rO Du.a (rM 0 (ru Du.a))) (ru Du.a).length=Rk:=by kernel_rfl
def Kv:List Int→List Int:=rH (si E1) Du Rk
theorem Wp:rG Tryz.prog gG ⟨60,Du,Kv⟩:=sK (sM Al) 3000 ae7 (by kernel_rfl)
def H5:Ct:=⟨[.agg [kU,kU],.sc kI],[.agg [kU,kU]]⟩
def Wq:rf SV :=
 (.call 74 [aa,ag,dS] 3 2 (.call 72 [ay,aC,dS] 5 2 dW))
theorem ae8:rY (ctx E1) 3000 59 (rO H5.a (rM 0 (ru H5.a))) (ru H5.a).length=Wq:=by kernel_rfl
def Ws:List Int→List Int:=rH (si E1) H5 Wq
theorem ae9:rG Tryz.prog gG ⟨59,H5,Ws⟩:=sK (sM Al) 3000 ae8 (by kernel_rfl)
def EL:Ct:=⟨[.agg [kU,kU],.agg [kU,kU]],[.agg [kU,kU,kU,kU]]⟩
def Rl:rf SV :=
 (.call 347 [aa,az] 4 2 (.call 347 [ag,ay] 6 2 (.call 225 dY 8 4 (.call 347 [aa,ay] 12 2 (.call 347 [ag,az] 14 2 (.call 235 [dZ,ed,ek,eu,ae,eB,eD,ae] 16 5 (.call 235 [eF,eG,eH,eP,ae,eQ,eU,ae] 21 5 (.leaf (.agg [eY,fe,fu,(.int .u64 fw)])))))))))
theorem afa:rY (ctx E1) 3000 298 (rO EL.a (rM 0 (ru EL.a))) (ru EL.a).length=Rl:=by kernel_rfl
def M3:List Int→List Int:=rH (si E1) EL Rl
theorem Wt:rG Tryz.prog gG ⟨298,EL,M3⟩:=sK (sM Al) 3000 afa (by kernel_rfl)
def H6:Ct:=⟨[.agg [kU,kU]],[.agg [kU,kU],.sc kI]⟩
def Wu:rf SV :=
 (.call 225 [aa,ag,ae,ae] 2 4 (.call 254 [az,ay,aC,dU] 6 1 (.ite (.bin .eql .i64 fA ae) (.call 255 [az,ay,aC,dU] 7 2 (.leaf (.tup [(.agg [fB,fC]),dD]))) (.call 226 [az,ay,aC,dU,fF] 7 4 (.call 255 [dX,dZ,ed,ek] 11 2 (.leaf (.tup [(.agg [fG,fH]),(.int .i64 fF)])))))))
theorem afb:rY (ctx E1) 3000 191 (rO H6.a (rM 0 (ru H6.a))) (ru H6.a).length=Wu:=by kernel_rfl
def Wv:List Int→List Int:=rH (si E1) H6 Wu
theorem afc:rG Tryz.prog gG ⟨191,H6,Wv⟩:=sK (sM Al) 3000 afb (by kernel_rfl)
def H7:Ct:=⟨[.agg [kU,kU,kU,kU],.sc kI],[.sc .bool]⟩
def Ww:rf SV :=
 (.call 228 fI 5 4 (.call 226 [dU,aA,dX,dZ,bi] 9 4 (.leaf (.bool (.not (.and (.bin .eql .u64 ed aa) (.and (.bin .eql .u64 ek ag) (.and (.bin .eql .u64 eu az) (.and (.bin .eql .u64 eD ay) ai)))))))))
theorem afd:rY (ctx E1) 3000 319 (rO H7.a (rM 0 (ru H7.a))) (ru H7.a).length=Ww:=by kernel_rfl
def Wx:List Int→List Int:=rH (si E1) H7 Ww
theorem afe:rG Tryz.prog gG ⟨319,H7,Wx⟩:=sK (sM Al) 3000 afd (by kernel_rfl)
def H8:Ct:=⟨[.agg [kU,kU,kU,kU]],[.agg [kU,kU,kU,kU],.sc kI]⟩
def Wy:rf SV :=
 (.call 254 fJ 4 1 (.ite fK (.leaf (.tup [(.agg [aJ,aI,aG,aH]),dD])) (.call 226 [aa,ag,az,ay,fM] 5 4 (.leaf (.tup [fO,(.int .i64 fM)])))))
theorem aff:rY (ctx E1) 3000 320 (rO H8.a (rM 0 (ru H8.a))) (ru H8.a).length=Wy:=by kernel_rfl
def Wz:List Int→List Int:=rH (si E1) H8 Wy
theorem afg:rG Tryz.prog gG ⟨320,H8,Wz⟩:=sK (sM Al) 3000 aff (by kernel_rfl)
def Dv:Ct:=⟨[.agg [kU,kU],.sc kU,.agg [kU,kU]],[.agg [kU,kU],.sc .bool]⟩
def Rm:rf SV :=
 (.call 75 [aa,ag,aa,ag] 5 3 (.call 309 [dU,(.bin .or .u64 aA az),ay,aC] 8 3 (.ite fQ fZ (.ite (.not gm) fZ (.leaf (.tup [(.agg [dV,(.int .u64 (.bin .or .u64 aA az))]),au]))))))
theorem afh:rY (ctx E1) 3000 300 (rO Dv.a (rM 0 (ru Dv.a))) (ru Dv.a).length=Rm:=by kernel_rfl
def EM:List Int→List Int:=rH (si E1) Dv Rm
theorem M4:rG Tryz.prog gG ⟨300,Dv,EM⟩:=sK (sM Al) 3000 afh (by kernel_rfl)
def EN:Ct:=⟨[.agg [kU,kU],.agg [kU,kU]],[.sc kI]⟩
def Rn:rf SV :=
 (.leaf (.int .i64 (.ite (.bin .neq .i64 gq ae) gq (.ite (.bin .neq .i64 gz ae) gz ae))))
theorem afi:rY (ctx E1) 3000 234 (rO EN.a (rM 0 (ru EN.a))) (ru EN.a).length=Rn:=by kernel_rfl
def EO:List Int→List Int:=rH (si E1) EN Rn
theorem WA:rG Tryz.prog gG ⟨234,EN,EO⟩:=sK (sM Al) 3000 afi (by kernel_rfl)
def E2:List sj:=⟨80,HY,Wm⟩::⟨81,HZ,Wo⟩::⟨60,Du,Kv⟩::⟨59,H5,Ws⟩::⟨298,EL,M3⟩::⟨191,H6,Wv⟩::⟨319,H7,Wx⟩::⟨320,H8,Wz⟩::⟨300,Dv,EM⟩::⟨234,EN,EO⟩::E1
theorem EP:∀ e∈E2,rG Tryz.prog gG e:=List.forall_mem_cons.2 ⟨ae4,List.forall_mem_cons.2 ⟨ae6,List.forall_mem_cons.2 ⟨Wp,List.forall_mem_cons.2 ⟨ae9,List.forall_mem_cons.2 ⟨Wt,List.forall_mem_cons.2 ⟨afc,List.forall_mem_cons.2 ⟨afe,List.forall_mem_cons.2 ⟨afg,List.forall_mem_cons.2 ⟨M4,List.forall_mem_cons.2 ⟨WA,Al⟩⟩⟩⟩⟩⟩⟩⟩⟩⟩
theorem afj:si E1 71=Hy:=Bn (e:=⟨71,_,Hy⟩) rfl
theorem M5:si E1 347=Ha:=Bn (e:=⟨347,_,Ha⟩) rfl
theorem afk:si E1 225=He:=Bn (e:=⟨225,_,He⟩) rfl
theorem WB:si E1 235=GR:=Bn (e:=⟨235,_,GR⟩) rfl
theorem afl:si E1 75=GX:=Bn (e:=⟨75,_,GX⟩) rfl
theorem afm:si E1 309=GZ:=Bn (e:=⟨309,_,GZ⟩) rfl
open Go.RowKit
def H9:Ct:=⟨[.sc kB,.agg [kU,kU]],[.agg [kU,kU]]⟩
def WC:rf SV :=
 (.call 60 dQ 3 1 (.call 59 [ag,az,dR] 4 2 (.leaf (.agg [aD,dV]))))
theorem afn:rY (ctx E2) 3000 26 (rO H9.a (rM 0 (ru H9.a))) (ru H9.a).length=WC:=by kernel_rfl
def WE:List Int→List Int:=rH (si E2) H9 WC
theorem afo:rG Tryz.prog gG ⟨26,H9,WE⟩:=sK (sM EP) 3000 afn (by kernel_rfl)
def Ia:Ct:=⟨[.sc kB,.sc .bool,.sc kI,.agg [kU,kU]],[.agg [kU,kU]]⟩
def WF:rf SV :=
 (.call 71 dQ 5 3 (.ite (.bin .eql .i64 gD ae) (.leaf gF) (.ite ak gT (.ite (.bin .gtr .i64 aj (.lit 1048576)) gT (.call 59 [ae,(.conv .u64 aj),gH] 8 2 gQ)))))
theorem afp:rY (ctx E2) 3000 35 (rO Ia.a (rM 0 (ru Ia.a))) (ru Ia.a).length=WF:=by kernel_rfl
def WG:List Int→List Int:=rH (si E2) Ia WF
theorem afq:rG Tryz.prog gG ⟨35,Ia,WG⟩:=sK (sM EP) 3000 afp (by kernel_rfl)
def Ib:Ct:=⟨[.sc kB,.sc kI],[.sc .bool]⟩
def WH:rf SV :=
 (.ite dF (.call 80 dQ 2 1 (.leaf (.bool (.bin .gtr .i64 (.var kI 1) aj)))) av)
theorem afr:rY (ctx E2) 3000 264 (rO Ib.a (rM 0 (ru Ib.a))) (ru Ib.a).length=WH:=by kernel_rfl
def WI:List Int→List Int:=rH (si E2) Ib WH
theorem afs:rG Tryz.prog gG ⟨264,Ib,WI⟩:=sK (sM EP) 3000 afr (by kernel_rfl)
def Ic:Ct:=⟨[.agg [kU,kU,kU,kU],.sc kI],[.agg [kU,kU,kU,kU]]⟩
def WJ:rf SV :=
 (.call 228 fI 5 4 (.call 319 fI 9 1 (.ite gU (.leaf (.agg [(.int .u64 (.bin .or .u64 dU ai)),aB,fB,fC])) (.leaf fO))))
theorem aft:rY (ctx E2) 3000 266 (rO Ic.a (rM 0 (ru Ic.a))) (ru Ic.a).length=WJ:=by kernel_rfl
def WK:List Int→List Int:=rH (si E2) Ic WJ
theorem afu:rG Tryz.prog gG ⟨266,Ic,WK⟩:=sK (sM EP) 3000 aft (by kernel_rfl)
def Ie:Ct:=⟨[.agg [kU,kU,kU,kU],.sc kI],[.sc kB]⟩
def WL:rf SV :=
 (.ite gV (.leaf gW) (.ite gX (.leaf gW) (.call 319 [aa,ag,az,ay,gZ] 5 1 (.leaf (.int .u8 (.ite (.ite (.bin .eql .i64 (.bin .shr .i64 gZ aO) aW) (.bin .eql .u64 (.bin .and .u64 (.bin .shr .u64 az ib) ai) ai) (.bin .eql .u64 (.bin .and .u64 (.bin .shr .u64 ay ib) ai) ai)) (.ite ic bK aW) (.ite ic ai ae)))))))
theorem afv:rY (ctx E2) 3000 322 (rO Ie.a (rM 0 (ru Ie.a))) (ru Ie.a).length=WL:=by kernel_rfl
def WM:List Int→List Int:=rH (si E2) Ie WL
theorem afw:rG Tryz.prog gG ⟨322,Ie,WM⟩:=sK (sM EP) 3000 afv (by kernel_rfl)
def Ig:Ct:=⟨[.agg [.bool,kB,kI,kU,kU],.agg [.bool,kB,kI,kU,kU]],[.sc kI,.agg [kU,kU,kU,kU]]⟩
def WN:rf SV :=
 (.ite (.bin .neq .u8 dJ ai) (.ite (.bin .neq .u8 dJ aW) ig iy) iy)
theorem afx:rY (ctx E2) 3000 222 (rO Ig.a (rM 0 (ru Ig.a))) (ru Ig.a).length=WN:=by kernel_rfl
def WO:List Int→List Int:=rH (si E2) Ig WN
theorem afy:rG Tryz.prog gG ⟨222,Ig,WO⟩:=sK (sM EP) 3000 afx (by kernel_rfl)
def E3:List sj:=⟨26,H9,WE⟩::⟨35,Ia,WG⟩::⟨264,Ib,WI⟩::⟨266,Ic,WK⟩::⟨322,Ie,WM⟩::⟨222,Ig,WO⟩::E2
theorem Dw:∀ e∈E3,rG Tryz.prog gG e:=List.forall_mem_cons.2 ⟨afo,List.forall_mem_cons.2 ⟨afq,List.forall_mem_cons.2 ⟨afs,List.forall_mem_cons.2 ⟨afu,List.forall_mem_cons.2 ⟨afw,List.forall_mem_cons.2 ⟨afy,EP⟩⟩⟩⟩⟩⟩
open Go.RowKit
def Ih:Ct:=⟨[.sc kB,.sc .bool],[.agg [kU,kU]]⟩
def WP:rf SV :=
 (.call 35 [dE,dH,ae,ae,ae] 2 2 (.leaf (.agg [aG,aH])))
theorem afz:rY (ctx E3) 3000 227 (rO Ih.a (rM 0 (ru Ih.a))) (ru Ih.a).length=WP:=by kernel_rfl
def WQ:List Int→List Int:=rH (si E3) Ih WP
theorem afA:rG Tryz.prog gG ⟨227,Ih,WQ⟩:=sK (sM Dw) 3000 afz (by kernel_rfl)
def Ii:Ct:=⟨[.sc kB,.sc .bool],[.agg [kU,kU]]⟩
def WR:rf SV :=
 (.call 80 dQ 2 1 (.call 35 [dE,dH,(.bin .add .i64 iA ai),ae,ae] 3 2 iB))
theorem afB:rY (ctx E3) 3000 127 (rO Ii.a (rM 0 (ru Ii.a))) (ru Ii.a).length=WR:=by kernel_rfl
def WS:List Int→List Int:=rH (si E3) Ii WR
theorem afC:rG Tryz.prog gG ⟨127,Ii,WS⟩:=sK (sM Dw) 3000 afB (by kernel_rfl)
def Ij:Ct:=⟨[.sc kB,.sc .bool],[.agg [kU,kU]]⟩
def WT:rf SV :=
 (.call 80 dQ 2 1 (.call 35 [dE,dH,iA,iC,iC] 3 2 iB))
theorem afD:rY (ctx E3) 3000 325 (rO Ij.a (rM 0 (ru Ij.a))) (ru Ij.a).length=WT:=by kernel_rfl
def WU:List Int→List Int:=rH (si E3) Ij WT
theorem afE:rG Tryz.prog gG ⟨325,Ij,WU⟩:=sK (sM Dw) 3000 afD (by kernel_rfl)
def Ik:Ct:=⟨[.sc kB,.agg [kU,kU]],[.sc .bool,.sc kI,.agg [kU,kU]]⟩
def WV:rf SV :=
 (.call 71 dQ 3 3 (.ite (.bin .eql .i64 dR ae) (.leaf (.tup [au,dD,gF])) (.call 26 iD 6 2 (.call 72 [aA,dX,iE] 8 2 (.call 73 [ag,az,(.bin .sub .i64 dR ai)] 10 1 (.call 59 [dZ,ed,(.bin .sub .i64 dR bi)] 11 2 (.call 59 [ag,az,iE] 13 2 (.leaf (.tup [(.bool gm),(.int .i64 (.conv .i64 eD)),(.agg [iq,gN])])))))))))
theorem afF:rY (ctx E3) 3000 34 (rO Ik.a (rM 0 (ru Ik.a))) (ru Ik.a).length=WV:=by kernel_rfl
def WW:List Int→List Int:=rH (si E3) Ik WV
theorem afG:rG Tryz.prog gG ⟨34,Ik,WW⟩:=sK (sM Dw) 3000 afF (by kernel_rfl)
def Il:Ct:=⟨[.sc kB,.sc .bool,.sc kI,.agg [kU,kU]],[.agg [kU,kU]]⟩
def WX:rf SV :=
 (.ite (.bin .eql .i64 aj ae) (.call 81 dQ 5 1 (.call 73 [ay,aC,gJ] 6 1 (.ite iF (.call 35 [dE,dH,ai,ay,aC] 7 2 iG) (.call 35 [dE,dH,aj,ay,aC] 7 2 iG)))) (.call 35 [dE,dH,aj,ay,aC] 5 2 dW))
theorem afH:rY (ctx E3) 3000 267 (rO Il.a (rM 0 (ru Il.a))) (ru Il.a).length=WX:=by kernel_rfl
def WY:List Int→List Int:=rH (si E3) Il WX
theorem afI:rG Tryz.prog gG ⟨267,Il,WY⟩:=sK (sM Dw) 3000 afH (by kernel_rfl)
def Im:Ct:=⟨[.sc kB],[.agg [kU,kU]]⟩
def WZ:rf SV :=
 (.call 80 dQ 1 1 (.call 81 dQ 2 1 (.call 74 [ae,ai,(.bin .sub .i64 aj aW)] 3 2 (.call 35 [dE,ae,(.bin .add .i64 (.bin .mul .i64 aW (.var kI 1)) ai),ay,aC] 5 2 dW))))
theorem afJ:rY (ctx E3) 3000 194 (rO Im.a (rM 0 (ru Im.a))) (ru Im.a).length=WZ:=by kernel_rfl
def W9:List Int→List Int:=rH (si E3) Im WZ
theorem afK:rG Tryz.prog gG ⟨194,Im,W9⟩:=sK (sM Dw) 3000 afJ (by kernel_rfl)
def Io:Ct:=⟨[.agg [kU,kU,kU,kU],.sc kI,.sc kB,.sc .bool],[.agg [kU,kU],.sc .bool]⟩
def Xa:rf SV :=
 (.ite gV iH (.ite gX iH (.ite (.not (.bin .leq .u8 (.var kB 5) cz)) iH (.call 228 [aa,ag,az,ay,fM] 7 4 (.call 321 [dX,dZ,ed,ek] 11 2 (.call 322 fI 13 1 (.call 323 [(.var kB 5),iF,(.bin .eql .u64 (.bin .and .u64 eD ai) ai),iI] 14 1 (.ite iJ (.call 75 [eu,eD,ae,ai] 15 3 (.leaf (.tup [(.agg [gP,iK]),iL]))) (.leaf (.tup [(.agg [fG,fH]),iL]))))))))))
theorem afL:rY (ctx E3) 3000 262 (rO Io.a (rM 0 (ru Io.a))) (ru Io.a).length=Xa:=by kernel_rfl
def Xb:List Int→List Int:=rH (si E3) Io Xa
theorem afM:rG Tryz.prog gG ⟨262,Io,Xb⟩:=sK (sM Dw) 3000 afL (by kernel_rfl)
def E4:List sj:=⟨227,Ih,WQ⟩::⟨127,Ii,WS⟩::⟨325,Ij,WU⟩::⟨34,Ik,WW⟩::⟨267,Il,WY⟩::⟨194,Im,W9⟩::⟨262,Io,Xb⟩::E3
theorem Kw:∀ e∈E4,rG Tryz.prog gG e:=List.forall_mem_cons.2 ⟨afA,List.forall_mem_cons.2 ⟨afC,List.forall_mem_cons.2 ⟨afE,List.forall_mem_cons.2 ⟨afG,List.forall_mem_cons.2 ⟨afI,List.forall_mem_cons.2 ⟨afK,List.forall_mem_cons.2 ⟨afM,Dw⟩⟩⟩⟩⟩⟩⟩
open Go.RowKit
def Ip:Ct:=⟨[.sc kB,.agg [kU,kU]],[.sc kB,.sc .bool]⟩
def Xc:rf SV :=
 (.ite dG (.leaf (.tup [gW,au])) (.call 34 iD 3 4 (.call 79 [dU,aA] 7 1 (.call 80 dQ 8 1 (.ite fK (.ite fQ (.leaf (.tup [gW,iN])) (.leaf (.tup [iO,iN]))) (.ite (.bin .lss .i64 bi (.bin .add .i64 (.bin .mul .i64 aW (.var kI 8)) ai)) (.leaf (.tup [iP,iN])) (.ite fQ (.leaf (.tup [iQ,iN])) (.call 81 dQ 9 1 (.call 73 [dU,aA,(.bin .sub .i64 iR aW)] 10 1 (.ite gm (.leaf (.tup [(.int .u8 cz),iN])) (.leaf (.tup [(.int .u8 (.lit 5)),iN]))))))))))))
theorem afN:rY (ctx E4) 3000 37 (rO Ip.a (rM 0 (ru Ip.a))) (ru Ip.a).length=Xc:=by kernel_rfl
def Xd:List Int→List Int:=rH (si E4) Ip Xc
theorem afO:rG Tryz.prog gG ⟨37,Ip,Xd⟩:=sK (sM Kw) 3000 afN (by kernel_rfl)
def Iq:Ct:=⟨[.sc kB,.sc kB,.sc .bool],[.agg [kU,kU,kB]]⟩
def Xe:rf SV :=
 (.ite dG iT (.ite iU iT (.call 327 [dJ,dI] 3 1 (.ite iM (.call 127 [dE,dI] 4 2 iV) (.call 325 [dE,dI] 4 2 iV)))))
theorem afP:rY (ctx E4) 3000 265 (rO Iq.a (rM 0 (ru Iq.a))) (ru Iq.a).length=Xe:=by kernel_rfl
def Xf:List Int→List Int:=rH (si E4) Iq Xe
theorem afQ:rG Tryz.prog gG ⟨265,Iq,Xf⟩:=sK (sM Kw) 3000 afP (by kernel_rfl)
def Ir:Ct:=⟨[.sc kB,.agg [kU,kU]],[.agg [kU,kU]]⟩
def Xg:rf SV :=
 (.call 194 dQ 3 2 (.call 34 iW 5 4 (.leaf (.agg [(.int .u64 (.bin .or .u64 ag dX)),(.int .u64 (.bin .or .u64 az dZ))]))))
theorem afR:rY (ctx E4) 3000 313 (rO Ir.a (rM 0 (ru Ir.a))) (ru Ir.a).length=Xg:=by kernel_rfl
def Xh:List Int→List Int:=rH (si E4) Ir Xg
theorem afS:rG Tryz.prog gG ⟨313,Ir,Xh⟩:=sK (sM Kw) 3000 afR (by kernel_rfl)
def Iu:Ct:=⟨[.sc kB,.agg [kU,kU]],[.agg [kU,kU]]⟩
def Xi:rf SV :=
 (.call 34 iD 3 4 (.call 35 [dE,(.not iM),bi,dU,aA] 7 2 iG))
theorem afT:rY (ctx E4) 3000 76 (rO Iu.a (rM 0 (ru Iu.a))) (ru Iu.a).length=Xi:=by kernel_rfl
def Xj:List Int→List Int:=rH (si E4) Iu Xi
theorem afU:rG Tryz.prog gG ⟨76,Iu,Xj⟩:=sK (sM Kw) 3000 afT (by kernel_rfl)
def E5:List sj:=⟨37,Ip,Xd⟩::⟨265,Iq,Xf⟩::⟨313,Ir,Xh⟩::⟨76,Iu,Xj⟩::E4
theorem Iw:∀ e∈E5,rG Tryz.prog gG e:=List.forall_mem_cons.2 ⟨afO,List.forall_mem_cons.2 ⟨afQ,List.forall_mem_cons.2 ⟨afS,List.forall_mem_cons.2 ⟨afU,Kw⟩⟩⟩⟩
open Go.RowKit
def Iy:Ct:=⟨[.sc kB,.agg [kU,kU]],[.sc .bool]⟩
def Xk:rf SV :=
 (.call 37 iD 3 2 (.leaf (.bool (.bin .geq .u8 iX cz))))
theorem afV:rY (ctx E5) 3000 31 (rO Iy.a (rM 0 (ru Iy.a))) (ru Iy.a).length=Xk:=by kernel_rfl
def Xl:List Int→List Int:=rH (si E5) Iy Xk
theorem afW:rG Tryz.prog gG ⟨31,Iy,Xl⟩:=sK (sM Iw) 3000 afV (by kernel_rfl)
def Iz:Ct:=⟨[.sc kB,.agg [kU,kU]],[.sc .bool]⟩
def Xm:rf SV :=
 (.call 37 iD 3 2 (.ite dF (.leaf (.bool (.bin .lss .u8 iX bK))) av))
theorem afX:rY (ctx E5) 3000 57 (rO Iz.a (rM 0 (ru Iz.a))) (ru Iz.a).length=Xm:=by kernel_rfl
def Xn:List Int→List Int:=rH (si E5) Iz Xm
theorem afY:rG Tryz.prog gG ⟨57,Iz,Xn⟩:=sK (sM Iw) 3000 afX (by kernel_rfl)
def IA:Ct:=⟨[.sc kB,.agg [kU,kU]],[.agg [.bool,kB,kI,kU,kU]]⟩
def Xo:rf SV :=
 (.call 37 iD 3 2 (.call 81 dQ 5 1 (.call 80 dQ 6 1 (.call 34 iD 7 4 (.ite (.bin .eql .u8 iX aW) (.call 74 [ed,ek,(.bin .sub .i64 aL gD)] 11 2 (.call 75 [eu,eD,iY,ae] 13 3 (.leaf (.agg [(.bool iZ),ja,(.int .i64 (.bin .sub .i64 (.var kI 8) fA)),iq,gN])))) (.ite (.bin .eql .u8 iX ai) (.call 191 [ed,ek] 11 3 (.leaf (.agg [(.bool iZ),ja,(.int .i64 (.bin .sub .i64 (.bin .sub .i64 (.bin .add .i64 (.bin .sub .i64 ai fA) aL) gD) (.var kI 13))),fG,fH]))) (.leaf (.agg [(.bool iZ),ja,dD,aK,aK]))))))))
theorem afZ:rY (ctx E5) 3000 125 (rO IA.a (rM 0 (ru IA.a))) (ru IA.a).length=Xo:=by kernel_rfl
def Xp:List Int→List Int:=rH (si E5) IA Xo
theorem af0:rG Tryz.prog gG ⟨125,IA,Xp⟩:=sK (sM Iw) 3000 afZ (by kernel_rfl)
def IB:Ct:=⟨[.sc kB,.agg [kB,.bool],.sc .bool,.sc kI,.agg [kU,kU,kU,kU]],[.agg [kU,kU,kB]]⟩
def Xq:rf SV :=
 (.ite dG iT (.ite iU iT (.call 202 [dU,aA,dX,dZ] 9 1 (.ite gU (.call 227 [dE,iM] 10 2 (.leaf (.agg [il,fG,gW]))) (.call 320 [dU,aA,dX,dZ] 10 5 (.call 81 dQ 15 1 (.call 80 dQ 16 1 (.call 262 [ek,eu,eD,eB,jb,dJ,iM] 17 3 (.call 73 [eG,eH,jb] 20 1 (.ite jc (.call 264 [dE,jh] 21 1 (.ite ji jk (.ite jm (.ite (.not dI) jF (.call 266 jo 22 4 (.call 262 jr 26 3 (.call 267 [dE,iM,ae,jv,jw] 29 2 (.ite (.var .bool 28) (.ite (.bin .lss .i64 jh jl) jD (.leaf (.agg [jA,jC,jG]))) jE))))) (.call 267 [dE,iM,(.bin .add .i64 (.bin .sub .i64 jh jl) ai),eG,eH] 22 2 jJ)))) (.call 264 [dE,jg] 21 1 (.ite ji jk (.ite jm (.ite (.not dI) jF jF) (.call 267 [dE,iM,(.bin .add .i64 (.bin .sub .i64 jg jl) ai),eG,eH] 22 2 jJ))))))))))))))
theorem af1:rY (ctx E5) 3000 204 (rO IB.a (rM 0 (ru IB.a))) (ru IB.a).length=Xq:=by kernel_rfl
def Xr:List Int→List Int:=rH (si E5) IB Xq
theorem af2:rG Tryz.prog gG ⟨204,IB,Xr⟩:=sK (sM Iw) 3000 af1 (by kernel_rfl)
def IC:Ct:=⟨[.sc kB,.agg [kU,kU]],[.sc .bool]⟩
def Xt:rf SV :=
 (.call 37 iD 3 2 (.leaf (.bool (.bin .eql .u8 iX (.lit 5)))))
theorem af3:rY (ctx E5) 3000 196 (rO IC.a (rM 0 (ru IC.a))) (ru IC.a).length=Xt:=by kernel_rfl
def Xu:List Int→List Int:=rH (si E5) IC Xt
theorem af4:rG Tryz.prog gG ⟨196,IC,Xu⟩:=sK (sM Iw) 3000 af3 (by kernel_rfl)
def E6:List sj:=⟨31,Iy,Xl⟩::⟨57,Iz,Xn⟩::⟨125,IA,Xp⟩::⟨204,IB,Xr⟩::⟨196,IC,Xu⟩::E5
theorem Xv:∀ e∈E6,rG Tryz.prog gG e:=List.forall_mem_cons.2 ⟨afW,List.forall_mem_cons.2 ⟨afY,List.forall_mem_cons.2 ⟨af0,List.forall_mem_cons.2 ⟨af2,List.forall_mem_cons.2 ⟨af4,Iw⟩⟩⟩⟩⟩
open Go.RowKit
def IE:Ct:=⟨[.sc kB,.agg [kU,kU]],[.agg [kU,kU]]⟩
def Xw:rf SV :=
 (.call 26 iD 3 2 (.call 31 iW 5 1 (.ite ic (.call 81 dQ 6 1 (.call 74 [ae,ai,(.bin .sub .i64 fA aW)] 7 2 (.leaf (.agg [(.int .u64 (.bin .or .u64 ay dX)),(.int .u64 (.bin .or .u64 aC dZ))])))) iB)))
theorem af5:rY (ctx E6) 3000 195 (rO IE.a (rM 0 (ru IE.a))) (ru IE.a).length=Xw:=by kernel_rfl
def Xx:List Int→List Int:=rH (si E6) IE Xw
theorem af6:rG Tryz.prog gG ⟨195,IE,Xx⟩:=sK (sM Xv) 3000 af5 (by kernel_rfl)
def E7:List sj:=⟨195,IE,Xx⟩::E6
theorem M6:∀ e∈E7,rG Tryz.prog gG e:=List.forall_mem_cons.2 ⟨af6,Xv⟩
open Go.RowKit
def IG:Ct:=⟨[.sc kB,.agg [kB,.bool],.agg [kU,kU],.agg [kU,kU]],[.agg [kU,kU,kB]]⟩
def Xy:rf SV :=
 (.ite dG iT (.ite iU iT (.call 125 iW 7 5 (.call 125 jK 12 5 (.call 220 jN 17 1 (.call 31 iW 18 1 (.ite (.var .bool 18) (.call 194 dQ 19 2 (.call 195 iW 21 2 (.ite jO jP (.call 196 iW 23 1 (.ite (.var .bool 23) jP (.call 196 jK 24 1 (.ite jQ jP jR))))))) (.call 31 jK 19 1 (.ite jH (.call 194 dQ 20 2 (.call 195 jK 22 2 (.ite jO jS (.call 196 iW 24 1 (.ite jQ jS (.call 196 jK 25 1 (.ite jT jS jI))))))) (.ite (.not jO) (.ite (.bin .geq .i64 (.ite jU ae (.ite jV ai dM)) ae) (.call 127 [dE,jW] 20 2 jX) (.call 222 jN 20 5 (.call 204 [dE,dJ,dI,jW,(.var kI 20),eX,eZ,fq,fw] 25 3 (.leaf (.agg [(.int .u64 jq),jY,(.int .u8 (.var kB 27))]))))) (.call 194 dQ 20 2 (.leaf (.agg [gM,eY,iO])))))))))))))
theorem af7:rY (ctx E7) 3000 162 (rO IG.a (rM 0 (ru IG.a))) (ru IG.a).length=Xy:=by kernel_rfl
def Xz:List Int→List Int:=rH (si E7) IG Xy
theorem af8:rG Tryz.prog gG ⟨162,IG,Xz⟩:=sK (sM M6) 3000 af7 (by kernel_rfl)
def II:Ct:=⟨[.sc kB,.sc kB,.agg [kU,kU]],[.agg [kU,kU,kB],.sc .bool]⟩
def XA:rf SV :=
 (.ite jZ j4 (.call 31 j5 4 1 (.ite (.not iZ) j4 (.call 34 j5 5 4 (.call 81 dQ 9 1 (.call 74 [dX,dZ,(.bin .sub .i64 (.lit 129) iR)] 10 2 (.call 81 [dJ] 12 1 (.call 72 [ek,eu,(.bin .sub .i64 (.lit 129) j6)] 13 2 (.call 80 [dJ] 15 1 (.call 313 [dJ,eB,eU] 16 2 (.call 35 [dJ,ic,(.bin .add .i64 (.bin .mul .i64 aW jb) ai),eF,eG] 18 2 (.call 195 [dJ,eH,eP] 20 2 (.call 196 j5 22 1 (.ite (.var .bool 22) (.leaf (.tup [(.agg [gM,eY,iO]),fV])) (.leaf (.tup [(.agg [gM,eY,gW]),fV]))))))))))))))))
theorem af9:rY (ctx E7) 3000 243 (rO II.a (rM 0 (ru II.a))) (ru II.a).length=XA:=by kernel_rfl
def XB:List Int→List Int:=rH (si E7) II XA
theorem aga:rG Tryz.prog gG ⟨243,II,XB⟩:=sK (sM M6) 3000 af9 (by kernel_rfl)
def E8:List sj:=⟨162,IG,Xz⟩::⟨243,II,XB⟩::E7
theorem XC:∀ e∈E8,rG Tryz.prog gG e:=List.forall_mem_cons.2 ⟨af8,List.forall_mem_cons.2 ⟨aga,M6⟩⟩
open Go.RowKit
def IJ:Ct:=⟨[.sc kB,.sc kB,.agg [kB,.bool],.agg [kU,kU]],[.agg [kU,kU,kB]]⟩
def XD:rf SV :=
 (.ite (.not (.ite dG ae (.ite jZ ae ai))) iT (.ite ku iT (.call 243 [dE,dJ,aC,dU] 6 4 (.ite gU (.leaf (.agg [aB,fB,(.int .u8 jL)])) (.call 125 kv 10 5 (.ite kw (.call 127 [dJ,gm] 15 2 ky) (.call 225 [eB,eU,ae,ae] 15 4 (.call 204 [dJ,kg,iM,gm,j6,eQ,eF,eG,eH] 19 3 (.leaf (.agg [gK,gM,(.int .u8 (.var kB 21))]))))))))))
theorem agb:rY (ctx E8) 3000 176 (rO IJ.a (rM 0 (ru IJ.a))) (ru IJ.a).length=XD:=by kernel_rfl
def XE:List Int→List Int:=rH (si E8) IJ XD
theorem agc:rG Tryz.prog gG ⟨176,IJ,XE⟩:=sK (sM XC) 3000 agb (by kernel_rfl)
def E9:List sj:=⟨176,IJ,XE⟩::E8
theorem agd:∀ e∈E9,rG Tryz.prog gG e:=List.forall_mem_cons.2 ⟨agc,XC⟩
open Go.RowKit
def XF:List sj:=E9
theorem age:∀ e∈XF,rG Tryz.prog gG e:=agd
end Go.Proofs.YtbembkamcdlhbaaGreatDoor
