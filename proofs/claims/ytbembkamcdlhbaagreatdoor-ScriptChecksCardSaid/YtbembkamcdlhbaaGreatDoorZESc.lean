import Derived.Test.YtbembkamcdlhbaaGreatDoorZDSc
set_option linter.unusedSimpArgs false
set_option linter.unusedVariables false
set_option maxRecDepth 100000
namespace Go.Proofs.YtbembkamcdlhbaaGreatDoor
open Go.RowKit
def Fe:Ct:=⟨[.agg [kU,kU]],[.sc .bool]⟩
abbrev aa:X:=.var kU 0
abbrev ae:X:=.lit 0
abbrev af:X:=.bin .eql .u64 aa ae
abbrev ag:X:=.var kU 1
abbrev ah:X:=.bin .eql .u64 ag ae
abbrev ai:X:=.lit 1
abbrev aj:X:=.var kI 2
abbrev ak:X:=.bin .lss .i64 aj ae
abbrev au:SV:=.bool ae
abbrev av:rf SV:=.leaf au
abbrev ax:X:=.lit 63
abbrev ay:X:=.var kU 3
abbrev az:X:=.var kU 2
abbrev aA:X:=.var kU 6
abbrev aB:SV:=.int .u64 aA
abbrev aC:X:=.var kU 4
abbrev aD:SV:=.int .u64 aC
abbrev aF:rf SV:=.leaf (.tup [(.agg [aB,aD]),(.bool (.bin .neq .u64 (.var .bit 7) ae))])
abbrev aG:SV:=.int .u64 az
abbrev aH:SV:=.int .u64 ay
abbrev aI:SV:=.int .u64 ag
abbrev aJ:SV:=.int .u64 aa
abbrev aK:SV:=.int .u64 ae
abbrev aL:X:=.lit 128
abbrev aM:X:=.min (.max aj ae) aL
abbrev aN:X:=.max (.lit (-128)) aM
abbrev aO:X:=.lit 6
abbrev aP:X:=.bin .shr .i64 aN aO
abbrev aQ:X:=.bin .sub .i64 ai aP
abbrev aR:X:=.conv .u64 (.bin .and .i64 aN ax)
abbrev aS:X:=.bin .sub .u64 ax aR
abbrev aT:X:=.max (.lit (-128)) (.min (.bin .sub .i64 ae aM) aL)
abbrev aU:X:=.bin .shr .i64 aT aO
abbrev aV:X:=.bin .sub .i64 ai aU
abbrev aW:X:=.lit 2
abbrev aX:X:=.conv .u64 (.bin .and .i64 aT ax)
abbrev aY:X:=.bin .sub .i64 aV ai
abbrev aZ:X:=.bin .sub .u64 ax aX
abbrev bf:X:=.bin .sub .i64 ae aU
abbrev bg:X:=.bin .sub .i64 bf ai
abbrev bi:X:=.var kI 4
abbrev bq:X:=.lit 256
abbrev bu:X:=.min (.max bi ae) bq
abbrev bv:X:=.max (.lit (-256)) bu
abbrev bz:X:=.bin .shr .i64 bv aO
abbrev bE:X:=.conv .u64 (.bin .and .i64 bv ax)
abbrev bG:X:=.bin .sub .u64 ax bE
abbrev bH:X:=.bin .sub .i64 ai bz
abbrev bI:X:=.bin .sub .i64 aW bz
abbrev bJ:X:=.bin .sub .i64 bI ai
abbrev bK:X:=.lit 3
abbrev bL:X:=.bin .sub .i64 bK bz
abbrev bP:X:=.bin .sub .i64 bL ai
abbrev bT:X:=.max (.lit (-256)) (.min (.bin .sub .i64 ae bu) bq)
abbrev bU:X:=.bin .shr .i64 bT aO
abbrev bV:X:=.bin .sub .i64 ae bU
abbrev cz:X:=.lit 4
abbrev cO:X:=.conv .u64 (.bin .and .i64 bT ax)
abbrev df:X:=.bin .sub .i64 bV ai
abbrev dh:X:=.bin .sub .u64 ax cO
abbrev di:X:=.bin .sub .i64 ai bU
abbrev dw:X:=.bin .sub .i64 di ai
abbrev dx:X:=.bin .sub .i64 aW bU
abbrev dz:X:=.bin .sub .i64 dx ai
abbrev dA:X:=.bin .sub .i64 bK bU
abbrev dC:X:=.bin .sub .i64 dA ai
abbrev dD:SV:=.int .i64 ae
abbrev dE:X:=.var kB 0
abbrev dF:X:=.bin .lss .i64 dE cz
abbrev dG:X:=.not dF
abbrev dH:X:=.var .bool 1
abbrev dI:X:=.var .bool 2
abbrev dJ:X:=.var kB 1
abbrev dK:X:=.var kB 6
abbrev dL:X:=.bin .eql .u8 dK ae
abbrev dM:X:=.lit (-1)
abbrev dO:X:=.bin .eql .u8 dJ bK
abbrev dP:X:=.bin .eql .u8 dK bK
abbrev dQ:List X:=[dE]
abbrev dR:X:=.var kI 3
abbrev dS:X:=.bin .sub .i64 aL aj
abbrev dU:X:=.var kU 5
abbrev dV:SV:=.int .u64 dU
abbrev dW:rf SV:=.leaf (.agg [dV,aB])
abbrev dX:X:=.var kU 7
abbrev dY:List X:=[aC,dU,aA,dX]
abbrev dZ:X:=.var kU 8
abbrev ed:X:=.var kU 9
abbrev ek:X:=.var kU 10
abbrev eu:X:=.var kU 11
abbrev eB:X:=.var kU 13
abbrev eD:X:=.var kU 12
abbrev eF:X:=.var kU 16
abbrev eG:X:=.var kU 17
abbrev eH:X:=.var kU 18
abbrev eO:X:=.var kU 19
abbrev eP:X:=.var kU 15
abbrev eQ:X:=.var kU 14
abbrev eT:X:=.var kU 21
abbrev eU:SV:=.int .u64 eT
abbrev eX:X:=.var kU 22
abbrev eY:SV:=.int .u64 eX
abbrev eZ:X:=.var kU 23
abbrev fe:SV:=.int .u64 eZ
abbrev fq:X:=.var kU 24
abbrev fu:X:=.var kI 6
abbrev fw:SV:=.int .u64 dX
abbrev fA:SV:=.int .u64 dZ
abbrev fB:X:=.bin .sub .i64 bq fu
abbrev fC:SV:=.int .u64 eu
abbrev fF:SV:=.int .u64 eD
abbrev fG:List X:=[aa,ag,az,ay,bi]
abbrev fH:List X:=[aa,ag,az,ay]
abbrev fI:X:=.bin .eql .i64 bi ae
abbrev fJ:X:=.bin .sub .i64 bq bi
abbrev fK:SV:=.agg [dV,aB,fw,fA]
abbrev fM:X:=.var .bool 7
abbrev fO:SV:=.int .u64 ed
abbrev fQ:SV:=.bool ai
abbrev fT:rf SV:=.leaf (.tup [(.agg [fA,fO]),fQ])
abbrev fV:X:=.var .bool 10
abbrev fZ:X:=.bin .neq .u64 az az
abbrev gm:X:=.ite (.bin .neq .u64 aa aa) (.ite fZ ae dM) (.ite fZ ai (.ite (.bin .lss .u64 aa az) dM (.ite (.bin .gtr .u64 aa az) ai ae)))
abbrev gp:X:=.bin .neq .u64 ay ay
abbrev gq:X:=.ite (.bin .neq .u64 ag ag) (.ite gp ae dM) (.ite gp ai (.ite (.bin .lss .u64 ag ay) dM (.ite (.bin .gtr .u64 ag ay) ai ae)))
abbrev gy:X:=.var kI 5
abbrev gz:SV:=.agg [aK,aK]
abbrev gD:X:=.bin .sub .i64 gy fu
abbrev gF:X:=.bin .sub .i64 fu ai
abbrev gH:X:=.bin .sub .i64 gy ai
abbrev gI:SV:=.int .u64 eO
abbrev gJ:X:=.var kU 20
abbrev gK:SV:=.int .u64 gJ
abbrev gL:SV:=.int .u64 eQ
abbrev gM:SV:=.int .u64 eP
abbrev gN:rf SV:=.call 74 [dZ,ed,gF] 10 2 (.call 59 [ay,aC,gF] 12 2 (.call 75 [ek,eu,eD,eB] 14 3 (.ite dH (.call 74 [ae,ai,gH] 17 2 (.call 75 [eQ,eP,eG,eH] 19 3 (.leaf (.agg [gI,gK])))) (.leaf (.agg [gL,gM])))))
abbrev gP:rf SV:=.call 59 [ae,ae,gD] 8 2 gN
abbrev gQ:X:=.var .bool 9
abbrev gT:X:=.bin .lss .i64 bi ae
abbrev gU:SV:=.int .u8 ae
abbrev gV:X:=.bin .gtr .i64 bi (.lit 127)
abbrev gW:X:=.lit 255
abbrev gX:X:=.bin .sub .i64 gW bi
abbrev gY:X:=.bin .and .i64 gX ax
abbrev gZ:X:=.var .bool 5
abbrev ib:rf SV:=.leaf (.tup [dD,(.agg [aK,aK,aK,aK])])
abbrev ic:X:=.var kI 7
abbrev ig:SV:=.int .u64 ek
abbrev ik:SV:=.int .u64 eB
abbrev il:rf SV:=.call 298 [ay,aC,dZ,ed] 10 4 (.leaf (.tup [(.int .i64 (.bin .add .i64 (.bin .add .i64 aj ic) ai)),(.agg [ig,fC,fF,ik])]))
abbrev iq:rf SV:=.ite (.bin .neq .u8 dK ai) (.ite (.bin .neq .u8 dK aW) ib il) il
abbrev iw:X:=.bin .mul .i64 aW aj
abbrev iy:rf SV:=.leaf (.agg [aH,aD])
abbrev iA:X:=.lit 18446744073709551615
abbrev iB:List X:=[dE,ag,az]
abbrev iC:X:=.bin .sub .i64 bi ai
abbrev iD:X:=.var .bool 6
abbrev iE:rf SV:=.leaf (.agg [fw,fA])
abbrev iF:rf SV:=.leaf (.tup [gz,au])
abbrev iG:X:=.var kB 13
abbrev iH:X:=.var .bool 14
abbrev iI:SV:=.int .u64 eF
abbrev iJ:SV:=.bool (.bin .neq .u8 iG ae)
abbrev iK:X:=.var .bool 3
abbrev iL:SV:=.bool iK
abbrev iM:SV:=.int .u8 ai
abbrev iN:SV:=.int .u8 aW
abbrev iO:SV:=.int .u8 bK
abbrev iP:X:=.var kI 9
abbrev iQ:rf SV:=.leaf (.agg [aK,aK,gU])
abbrev iR:X:=.not (.bin .leq .u8 dJ cz)
abbrev iT:rf SV:=.leaf (.agg [aD,dV,(.int .u8 (.lit 20))])
abbrev iU:List X:=[dE,ay,aC]
abbrev iV:X:=.var kB 3
abbrev iW:X:=.lit 9223372036854775808
abbrev iX:X:=.var .bool 4
abbrev iY:SV:=.int .u8 iV
abbrev iZ:X:=.var kI 15
abbrev ja:X:=.var .bool 20
abbrev jb:X:=.lit (-1099511627776)
abbrev jc:X:=.lit 1099511627776
abbrev jd:X:=.var kI 14
abbrev je:X:=.bin .sub .i64 (.max jb (.min bi jc)) jd
abbrev jf:X:=.bin .add .i64 je ai
abbrev jg:X:=.var .bool 21
abbrev jh:rf SV:=.call 265 [dE,dJ,iK] 22 3 (.leaf (.agg [eY,fe,(.int .u8 (.var kB 24))]))
abbrev ji:X:=.bin .sub .i64 ai (.var kI 16)
abbrev jk:X:=.bin .lss .i64 je ji
abbrev jl:List X:=[ek,eu,eD,eB,(.bin .sub .i64 ji je)]
abbrev jm:X:=.var kU 25
abbrev jo:List X:=[eX,eZ,fq,jm,iZ,dJ,iK]
abbrev jq:X:=.var kU 26
abbrev jr:X:=.var kU 27
abbrev jv:X:=.var kU 29
abbrev jw:SV:=.int .u64 jv
abbrev jy:X:=.var kU 30
abbrev jA:SV:=.int .u64 jy
abbrev jB:rf SV:=.leaf (.agg [jw,jA,(.int .u8 (.lit 24))])
abbrev jC:rf SV:=.leaf (.agg [jw,jA,gU])
abbrev jD:rf SV:=.call 266 jl 22 4 (.call 262 jo 26 3 (.call 267 [dE,iK,ae,jq,jr] 29 2 (.ite (.var .bool 28) jB jC)))
abbrev jE:SV:=.int .u8 (.lit 16)
abbrev jF:X:=.var .bool 19
abbrev jG:rf SV:=.leaf (.agg [eY,fe,gU])
abbrev jH:rf SV:=.ite jF (.leaf (.agg [eY,fe,jE])) jG
abbrev jI:List X:=[dE,dU,aA]
abbrev jJ:X:=.var kB 8
abbrev jK:X:=.var .bool 12
abbrev jL:List X:=[fM,jJ,iP,ek,eu,jK,iG,jd,eP,eF]
abbrev jM:X:=.var .bool 17
abbrev jN:rf SV:=.leaf (.agg [eU,eY,iM])
abbrev jO:X:=.var .bool 24
abbrev jP:rf SV:=.leaf (.agg [eU,eY,gU])
abbrev jQ:rf SV:=.leaf (.agg [eY,fe,iM])
abbrev jR:X:=.var .bool 25
abbrev jS:X:=.bin .eql .u8 jJ bK
abbrev jT:X:=.bin .eql .u8 iG bK
abbrev jU:X:=.not (.beq fM jK)
abbrev jV:rf SV:=.leaf (.agg [gK,eU,gU])
abbrev jW:SV:=.int .u64 jq
abbrev jX:X:=.not (.bin .lss .i64 dJ cz)
abbrev jY:rf SV:=.leaf (.tup [(.agg [aK,aK,gU]),au])
abbrev jZ:List X:=[dE,az,ay]
abbrev j4:X:=.var kI 12
abbrev j5:X:=.var kB 2
abbrev j6:X:=.not (.bin .leq .u8 j5 cz)
abbrev kg:List X:=[dE,aC,dU]
abbrev ku:X:=.bin .eql .u8 (.var kB 11) bK
abbrev kv:rf SV:=.leaf (.agg [gM,iI,gU])
abbrev kw:rf SV:=.leaf (.tup [(.agg [fw,fA,iM]),fQ])
abbrev ky:rf SV:=.leaf (.tup [(.agg [fO,ig,iM]),fQ])
abbrev kz:X:=.var .bool 11
abbrev kC:rf SV:=.leaf (.tup [(.agg [ig,fC,iM]),fQ])
abbrev kF:X:=.var .bool 13
abbrev kG:X:=.var .bool 8
abbrev kH:rf SV:=.leaf (.tup [(.agg [fC,fF,iM]),fQ])
abbrev kJ:List X:=[dE,aA,dX]
abbrev kK:X:=.var .bool 15
abbrev kL:rf SV:=.leaf (.tup [(.agg [fF,ik,iM]),fQ])
abbrev kM:X:=.var .bool 16
abbrev kN:rf SV:=.leaf (.tup [(.agg [ik,gL,iM]),fQ])
abbrev kP:List X:=[ag,az,ay,aC]
abbrev kQ:List X:=[aA,dX,dZ,ed]
abbrev kR:X:=.max jb (.min gy jc)
abbrev kS:X:=.max jb (.min (.var kI 0) jc)
abbrev kT:rf SV:=.leaf (.int .i64 (.max kS kR))
abbrev kV:List X:=[ag,az,ay,aC,(.bin .sub .i64 (.max kS kR) kS)]
abbrev kX:List X:=[aA,dX,dZ,ed,(.bin .sub .i64 (.max kS kR) kR)]
abbrev kY:rf SV:=.leaf (.int .i64 ai)
abbrev kZ:rf SV:=.leaf (.int .i64 (.var kI 20))
abbrev lc:List X:=[(.var kI 0),ag,az,ay,aC,gy,aA,dX,dZ,ed]
abbrev lg:X:=.bin .add .i64 (.var kI 10) ai
abbrev lh:X:=.bin .lss .i64 (.var kI 10) ae
abbrev ll:X:=.var kI 11
abbrev lq:X:=.bin .add .i64 ll ae
abbrev lu:List X:=[aA,dX,dZ,ed,(.bin .sub .i64 lq kR)]
abbrev lv:List X:=[ag,az,ay,aC,(.bin .sub .i64 lq kS)]
abbrev lw:rf SV:=.call 236 [eD,eB,eQ,eP,eF,eG,eH,eO] 20 5 (.leaf (.tup [(.agg [(.int .i64 lq),gK,eU,eY,fe]),(.bool lh)]))
abbrev lC:rf SV:=.leaf (.agg [(.int .u64 eG),(.int .u64 eH),(.int .u8 (.var kB 19))])
abbrev lF:rf SV:=.ite ja lC (.call 127 [dE,fM] 21 2 jP)
abbrev lG:List X:=[dE,ae,ay,aC,dU,aA]
abbrev lH:List X:=[ek,eu,ae,ae]
abbrev lI:List X:=[eP,eF,ae,ae]
abbrev lJ:X:=.var kU 28
abbrev lL:List X:=[iP,eT,eX,eZ,fq,jd,jm,jq,jr,lJ]
abbrev lN:X:=.var kU 31
abbrev lQ:X:=.var kU 32
abbrev lS:X:=.var kU 33
abbrev lU:X:=.var kU 36
abbrev lV:SV:=.int .u64 lU
abbrev lW:SV:=.int .u64 (.var kU 37)
abbrev lX:rf SV:=.leaf (.agg [lV,lW,(.int .u8 (.var kB 38))])
abbrev lY:X:=.var kU 35
abbrev lZ:SV:=.int .u64 lY
abbrev l5:rf SV:=.call 204 [dE,dJ,dI,fM,(.var kI 29),jy,lN,lQ,lS] 35 3 (.leaf (.agg [lZ,lV,(.int .u8 (.var kB 37))]))
abbrev l6:List X:=[iH,(.var kB 15),(.var kI 16),eG,eH,jF,(.var kB 20),(.var kI 21),eX,eZ]
abbrev l7:X:=.bin .eql .u8 (.var kB 10) bK
abbrev l8:X:=.not (.beq iH jF)
abbrev l9:List X:=[dE,ae,ay,aC,dU,aA,dX,dZ]
abbrev ma:X:=.var .bool 33
abbrev mf:X:=.var kU 34
abbrev mg:SV:=.int .u64 mf
abbrev mh:SV:=.int .u64 (.var kU 38)
abbrev mi:X:=.var kU 39
abbrev mo:SV:=.int .u64 lN
abbrev mq:rf SV:=.leaf (.agg [jA,mo,(.int .u8 (.var kB 32))])
abbrev mr:rf SV:=.leaf (.agg [mg,lZ,gU])
abbrev mD:rf SV:=.ite ma mq (.call 127 [dE,l8] 34 2 mr)
abbrev mF:List X:=[dE,ai,ay,aC,dU,aA,dX,dZ]
abbrev mG:rf SV:=.ite (.not (.var .bool 29)) (.ite l7 (.ite (.not (.beq l8 gQ)) (.call 3000126 l9 30 4 (.call 3000126 [dE,(.not ma),ay,aC,dU,aA,dX,dZ] 34 4 (.ite (.var .bool 37) (.leaf (.agg [mg,lZ,(.int .u8 (.var kB 36))])) (.call 127 [dE,l8] 38 2 (.leaf (.agg [mh,(.int .u64 mi),gU])))))) (.call 3000126 l9 30 4 mD)) (.call 3000126 l9 30 4 mD)) (.call 3000126 mF 30 4 mD)
abbrev mH:List X:=[eD,eB,ae,ae]
abbrev mI:rf SV:=.leaf (.agg [(.int .u64 (.var kU 54)),(.int .u64 (.var kU 55)),(.int .u8 (.var kB 56))])
abbrev mJ:X:=.var kU 40
abbrev mK:X:=.var kU 41
abbrev mM:SV:=.int .u64 (.var kU 44)
abbrev mO:SV:=.int .u64 (.var kU 45)
abbrev mP:rf SV:=.call 204 [dE,dJ,dI,l8,(.var kI 38),mi,mJ,mK,(.var kU 42)] 44 3 (.leaf (.agg [mM,mO,(.int .u8 (.var kB 46))]))
abbrev mQ:rf SV:=.ite ma mq (.ite l7 (.call 127 [dE,gQ] 34 2 mr) (.call 225 mH 34 4 (.call 198 [(.var kI 24),jm,jq,jr,lJ,ll,mf,lY,lU,(.var kU 37)] 38 5 (.ite (.not (.beq l8 gQ)) (.call 225 mH 43 4 (.call 200 [(.var kI 24),jm,jq,jr,lJ,ll,(.var kU 43),(.var kU 44),(.var kU 45),(.var kU 46)] 47 6 (.call 202 [(.var kU 48),(.var kU 49),(.var kU 50),(.var kU 51)] 53 1 (.ite (.var .bool 53) (.call 204 [dE,dJ,dI,dO,(.var kI 47),(.var kU 48),(.var kU 49),(.var kU 50),(.var kU 51)] 54 3 mI) (.call 204 [dE,dJ,dI,(.not (.beq l8 (.var .bool 52))),(.var kI 47),(.var kU 48),(.var kU 49),(.var kU 50),(.var kU 51)] 54 3 mI))))) (.call 202 [mi,mJ,mK,(.var kU 42)] 43 1 (.ite (.var .bool 43) mP mP))))))
abbrev mR:rf SV:=.leaf (.agg [ig,fC,(.int .u8 (.var kB 12))])
abbrev mU:rf SV:=.call 127 [dE,jU] 21 2 jP
abbrev mV:X:=.bin .eql .u8 jJ ae
abbrev mW:rf SV:=.call 227 [dE,jU] 21 2 jP
abbrev mX:List X:=[jm,jq,jr,lJ,(.lit 100)]
abbrev mY:X:=.not (.var .bool 36)
abbrev mZ:X:=.bin .add .i64 (.bin .sub .i64 iP jd) (.lit 27)
abbrev ng:rf SV:=.leaf (.agg [lW,mh,(.int .u8 (.var kB 39))])
abbrev ni:rf SV:=.ite mV mW (.ite (.bin .eql .u8 iG ae) (.call 127 [dE,jU] 21 2 (.leaf (.agg [eU,eY,iN]))) (.call 225 lH 21 4 (.call 224 [eT,eX,eZ,fq,eP,eF] 25 7 (.call 226 mX 32 4 (.call 79 [jv,jy] 36 1 (.ite mY (.call 204 [dE,dJ,dI,jU,mZ,(.bin .or .u64 lQ ai),lS,mf,lY] 37 3 ng) (.call 204 [dE,dJ,dI,jU,mZ,lQ,lS,mf,lY] 37 3 ng)))))))
abbrev nk:rf SV:=.call 26 iB 20 2 jV
abbrev nu:X:=.bin .sub .i64 j4 ai
abbrev ny:X:=.bin .lss .i64 ic nu
abbrev nA:X:=.bin .eql .i64 ic nu
abbrev nC:List X:=[dZ,ed,eB,eQ]
abbrev nD:X:=.bin .add .i64 (.min ic j4) aL
abbrev nE:X:=.not (.beq gZ ae)
abbrev nG:X:=.bin .sub .i64 ic j4
abbrev nH:X:=.bin .gtr .i64 nG ae
abbrev nI:rf SV:=.ite (.bin .neq .u8 (.var kB 38) ae) iQ (.leaf (.agg [lV,lW,gU]))
abbrev nJ:rf SV:=.call 230 [jr,lJ] 31 4 (.call 202 [lN,lQ,lS,mf] 35 1 (.call 204 [dE,cz,ae,(.not (.beq gZ (.not (.var .bool 35)))),nD,lN,lQ,lS,mf] 36 3 nI))
abbrev nK:rf SV:=.call 230 [eZ,fq] 31 4 (.call 204 [dE,cz,ae,nE,nD,lN,lQ,lS,mf] 35 3 (.ite (.bin .neq .u8 (.var kB 37) ae) iQ (.leaf (.agg [lZ,lV,gU]))))
abbrev nL:rf SV:=.call 309 [eB,eQ,eZ,fq] 27 3 (.call 234 [eZ,fq,jr,lJ] 30 1 (.ite (.bin .gtr .i64 (.var kI 30) ae) nJ (.ite (.bin .eql .i64 (.var kI 30) ae) (.ite jR nJ nK) nK)))
abbrev nM:X:=.bin .gtr .i64 (.var kI 26) ae
abbrev nO:SV:=.int .u64 lS
abbrev nP:rf SV:=.ite (.bin .neq .u8 (.var kB 34) ae) iQ (.leaf (.agg [(.int .u64 lQ),nO,gU]))
abbrev nQ:rf SV:=.call 230 [eZ,fq] 27 4 (.call 202 [jr,lJ,jv,jy] 31 1 (.call 204 [dE,cz,ae,(.not (.beq gZ (.not (.var .bool 31)))),nD,jr,lJ,jv,jy] 32 3 nP))
abbrev nR:X:=.bin .eql .i64 (.var kI 26) ae
abbrev nS:rf SV:=.call 204 [dE,cz,ae,nE,nD,jr,lJ,jv,jy] 31 3 (.ite (.bin .neq .u8 (.var kB 33) ae) iQ (.leaf (.agg [mo,(.int .u64 lQ),gU])))
abbrev nT:rf SV:=.call 230 [dZ,ed] 27 4 nS
abbrev nU:rf SV:=.call 26 iB 21 2 jP
abbrev nV:X:=.bin .neq .u8 (.var kB 28) ae
abbrev nX:rf SV:=.leaf (.agg [jW,(.int .u64 jr),gU])
abbrev nY:rf SV:=.call 230 [lJ,jv] 32 4 (.call 202 [lQ,lS,mf,lY] 36 1 (.call 204 [dE,cz,ae,(.not (.beq gZ mY)),nD,lQ,lS,mf,lY] 37 3 (.ite (.bin .neq .u8 (.var kB 39) ae) iQ (.leaf (.agg [lW,mh,gU])))))
abbrev nZ:rf SV:=.call 230 [fq,jm] 32 4 (.call 204 [dE,cz,ae,nE,nD,lQ,lS,mf,lY] 36 3 nI)
abbrev og:rf SV:=.call 309 [eB,eQ,fq,jm] 28 3 (.call 234 [fq,jm,lJ,jv] 31 1 (.ite (.bin .gtr .i64 (.var kI 31) ae) nY (.ite (.bin .eql .i64 (.var kI 31) ae) (.ite (.var .bool 26) nY nZ) nZ)))
abbrev oh:X:=.bin .gtr .i64 (.var kI 27) ae
abbrev ol:rf SV:=.call 230 [fq,jm] 28 4 (.call 202 [lJ,jv,jy,lN] 32 1 (.call 204 [dE,cz,ae,(.not (.beq gZ (.not (.var .bool 32)))),nD,lJ,jv,jy,lN] 33 3 (.ite (.bin .neq .u8 (.var kB 35) ae) iQ (.leaf (.agg [nO,mg,gU])))))
abbrev om:X:=.bin .eql .i64 (.var kI 27) ae
abbrev oo:rf SV:=.call 204 [dE,cz,ae,nE,nD,lJ,jv,jy,lN] 32 3 nP
abbrev oq:rf SV:=.call 230 [dZ,ed] 28 4 oo
abbrev ou:rf SV:=.ite ku nU (.ite ny nU (.ite nA (.call 230 [dZ,ed] 21 4 (.call 234 nC 25 1 (.ite (.bin .gtr .i64 (.var kI 25) ae) (.call 230 [eB,eQ] 26 4 (.call 230 [eB,eQ] 30 4 (.call 235 [jq,jr,lJ,jv,jy,lN,lQ,lS] 34 5 (.call 236 [mf,lY,lU,(.var kU 37),eT,eX,eZ,fq] 39 5 (.call 202 [mi,mJ,mK,(.var kU 42)] 44 1 (.call 204 [dE,cz,ae,(.not (.beq gZ (.not (.var .bool 44)))),nD,mi,mJ,mK,(.var kU 42)] 45 3 (.ite (.bin .neq .u8 (.var kB 47) ae) iQ (.leaf (.agg [mO,(.int .u64 (.var kU 46)),gU]))))))))) (.call 204 [dE,cz,ae,nE,nD,eT,eX,eZ,fq] 26 3 (.ite nV iQ nX))))) (.call 309 nC 21 3 (.ite (.not (.var .bool 23)) (.ite nH (.call 310 [eT,eX,nG,eB,eQ] 24 4 og) (.call 309 [eB,eQ,eT,eX] 24 3 (.call 234 [eT,eX,fq,jm] 27 1 (.ite oh ol (.ite om ol (.call 230 [eT,eX] 28 4 oo)))))) (.ite nH (.call 310 [dZ,ed,nG,eB,eQ] 24 4 og) (.call 309 [eB,eQ,dZ,ed] 24 3 (.call 234 [dZ,ed,fq,jm] 27 1 (.ite oh ol (.ite om oq oq)))))))))
abbrev ow:rf SV:=.ite ja lC (.ite dL nU ou)
abbrev oz:rf SV:=.leaf (.agg [gL,gM,gU])
abbrev oC:List X:=[dZ,ed,ae,ae]
abbrev oD:X:=.bin .sub .i64 ic gW
abbrev oF:X:=.bin .add .i64 (.bin .quo .i64 (.bin .add .i64 oD ai) aW) (.lit 155)
abbrev oG:rf SV:=.leaf (.agg [nO,mg,(.int .u8 (.var kB 35))])
abbrev oH:X:=.bin .add .i64 (.bin .quo .i64 oD aW) (.lit 155)
abbrev oI:rf SV:=.leaf (.agg [jw,jA,(.int .u8 (.var kB 31))])
abbrev oJ:rf SV:=.ite dP (.call 127 [dE,gZ] 14 2 oz) (.call 225 oC 14 4 (.ite (.bin .neq .i64 (.bin .rem .i64 oD aW) ae) (.call 228 [eQ,eP,eF,eG,ai] 18 4 (.call 229 [eH,eO,gJ,eT] 22 3 (.call 230 [eX,eZ] 25 4 (.call 226 mX 29 4 (.ite (.not jO) (.call 204 [dE,dJ,dI,ae,oF,(.bin .or .u64 jv ai),jy,lN,lQ] 33 3 oG) (.call 204 [dE,dJ,dI,ae,oF,jv,jy,lN,lQ] 33 3 oG)))))) (.call 229 [eQ,eP,eF,eG] 18 3 (.call 230 [eH,eO] 21 4 (.call 226 [eT,eX,eZ,fq,(.lit 100)] 25 4 (.ite (.not ja) (.call 204 [dE,dJ,dI,ae,oH,(.bin .or .u64 jm ai),jq,jr,lJ] 29 3 oI) (.call 204 [dE,dJ,dI,ae,oH,jm,jq,jr,lJ] 29 3 oI)))))))
abbrev oK:List X:=[dE,ae,ay,aC]
abbrev oL:rf SV:=.call 227 [dE,gZ] 14 2 oz
abbrev oM:X:=.conv .u64 (.conv .i64 (.conv .i32 aC))
abbrev oN:X:=.bin .eql .u64 (.bin .shr .u64 oM ax) ai
abbrev oO:rf SV:=.leaf (.agg [dV,aB,(.int .u8 (.var kB 7))])
abbrev oP:X:=.bin .eql .u8 dE ai
abbrev oQ:X:=.bin .eql .u8 dE aW
abbrev oU:X:=.bin .eql .u64 (.bin .shr .u64 aC ax) ai
abbrev oV:rf SV:=.leaf (.bool (.bin .eql .u64 ag ag))
abbrev oZ:X:=.bin .eql .u8 dE bK
abbrev o9:rf SV:=.leaf (.agg [aK,gU])
abbrev pg:X:=.bin .eql .i64 dJ ae
abbrev pq:X:=.bin .eql .i64 dJ ai
abbrev pu:X:=.bin .eql .i64 dJ aW
abbrev pz:X:=.ite pg (.lit 2147483648) (.ite pq ae (.ite pu iW ae))
abbrev pE:rf SV:=.leaf (.agg [(.int .u64 (.bin .sub .u64 ae pz)),iM])
abbrev pF:X:=.bin .gtr .i64 ic (.lit 64)
abbrev pG:X:=.bin .lss .i64 ic ae
abbrev pI:List X:=[ek,eu,eD,eB,(.bin .sub .i64 (.bin .sub .i64 ae ic) ai)]
abbrev pJ:List X:=[eQ,eP,eF,eG,ae,j5,gZ]
abbrev pK:X:=.bin .gtr .i64 (.var kI 21) ae
abbrev pM:SV:=.int .u64 (.bin .sub .u64 ae eO)
abbrev pO:List X:=[ek,eu,eD,eB,(.bin .add .i64 ic ai),j5,gZ]
abbrev pQ:X:=.bin .gtr .i64 (.var kI 17) ae
abbrev pR:SV:=.int .u64 (.bin .sub .u64 ae eP)
abbrev pU:X:=.ite pg (.lit 2147483647) (.ite pq (.lit 4294967295) (.ite pu (.lit 9223372036854775807) iA))
abbrev pV:rf SV:=.leaf (.agg [(.int .u64 pU),iM])
abbrev pW:rf SV:=.ite dI (.leaf (.agg [aK,aK,jE])) iQ
abbrev pX:rf SV:=.leaf (.agg [jA,mo,gU])
abbrev pY:rf SV:=.leaf (.tup [gU,gU])
abbrev qa:rf SV:=.leaf (.tup [iO,iM])
abbrev qc:rf SV:=.ite fM qa (.leaf (.tup [iO,gU]))
abbrev qd:rf SV:=.ite kG qa (.leaf (.tup [iO,gU]))
abbrev qf:rf SV:=.ite fM pY (.leaf (.tup [iN,gU]))
abbrev qg:rf SV:=.leaf (.tup [iM,gU])
abbrev qh:rf SV:=.ite jU qf (.ite fM (.leaf (.tup [iN,gU])) pY)
abbrev qi:rf SV:=.ite jU qf (.ite fM (.leaf (.tup [(.int .u8 (.bin .add .u8 ai (.conv .u8 (.bin .sub .i64 ae (.var kI 25))))),gU])) (.leaf (.tup [(.int .u8 (.bin .add .u8 ai (.conv .u8 (.var kI 25)))),gU])))
abbrev qj:rf SV:=.call 125 iB 7 5 (.call 125 iU 12 5 (.ite jS (.ite jT (.ite jU qf (.ite fM qg qg)) (.ite jU qf qf)) (.ite jT (.ite mV qh qh) (.call 225 lH 17 4 (.call 225 lI 21 4 (.call 258 [iP,eG,eH,eO,gJ,jd,eT,eX,eZ,fq] 25 1 (.ite mV (.ite (.bin .eql .u8 iG ae) qg qi) qi)))))))
abbrev ql:X:=.not (.bin .leq .u8 iV cz)
abbrev qm:X:=.bin .gtr .u8 (.var kB 4) ai
abbrev qo:X:=.not (.bin .eql .u8 j5 ae)
abbrev qp:List X:=[dJ,dU,aA]
abbrev qx:List X:=[dJ,dX,dZ]
abbrev qy:X:=.not (.and (.bin .eql .u64 ed ae) (.and (.bin .eql .u64 ek ae) ai))
abbrev qz:rf SV:=.ite jX kY (.ite ql kY (.ite qm kY (.ite qo kY (.call 115 qp 11 1 (.ite kz (.call 115 qx 12 1 (.ite jK (.ite qy kY (.leaf dD)) kY)) kY)))))
abbrev qA:X:=.bin .eql .u8 dE (.lit 5)
abbrev qB:X:=.and (.bin .eql .u64 dX ae) (.and (.bin .eql .u64 dZ ae) ai)
abbrev qC:rf SV:=.ite kz (.ite qB (.ite qy kY (.leaf dD)) kY) kY
abbrev qD:rf SV:=.ite jX kY (.ite ql kY (.ite qm kY (.ite qo kY (.call 115 qp 11 1 qC))))
abbrev qE:X:=.bin .eql .u8 dE (.lit 7)
abbrev qF:X:=.bin .eql .u8 dE (.lit 8)
abbrev qG:X:=.bin .eql .u8 dE (.lit 9)
abbrev qH:X:=.bin .eql .u8 dE (.lit 10)
abbrev qI:X:=.not (.bin .lss .i64 j5 cz)
abbrev qJ:rf SV:=.ite jX kY (.ite ql kY (.ite qm kY (.ite qI kY (.call 115 qp 11 1 qC))))
abbrev qK:X:=.bin .eql .u8 dE (.lit 11)
abbrev qL:X:=.bin .eql .u8 dE (.lit 12)
abbrev qM:X:=.bin .eql .u64 dU ae
abbrev qN:X:=.bin .eql .u8 dE (.lit 13)
abbrev qO:X:=.bin .eql .u8 dE (.lit 14)
abbrev qP:rf SV:=.leaf (.agg [(.int .i64 ai),aK,aK,gU])
abbrev qQ:X:=.bin .eql .u8 (.var kB 4) ai
abbrev qR:List X:=[dJ,iV,qQ,dU,aA,dX,dZ]
abbrev qU:rf SV:=.leaf (.agg [dD,ik,gL,(.int .u8 (.var kB 15))])
abbrev qV:SV:=.int .u8 (.var kB 14)
abbrev qW:rf SV:=.leaf (.agg [dD,fF,ik,qV])
abbrev qX:List X:=[dJ,dU,aA,dX,dZ]
abbrev qY:rf SV:=.leaf (.agg [dD,aK,(.int .u64 iG),qV])
def RB:rf SV :=
 (.leaf (.bool (.and af (.and ah ai))))
theorem ae6:rX (ctx E0) 3000 79 (rM Fe.a (rJ 0 (rq Fe.a))) (rq Fe.a).length=RB:=by kernel_rfl
def Ny:List Int→List Int:=rG (r9 E0) Fe RB
theorem Wp:rF Tryz.prog gG ⟨79,Fe,Ny⟩:=sJ (sK xy) 3000 ae6 (by kernel_rfl)
def H5:Ct:=⟨[.agg [kU,kU],.sc kI],[.sc .bool]⟩
def Wq:rf SV :=
 (.ite ak av (.ite (.bin .gtr .i64 aj (.lit 127)) av (.ite (.bin .gtr .i64 aj ax) (.leaf (.bool (.bin .eql .u64 (.bin .and .u64 (.bin .shr .u64 aa (.bin .sub .i64 aj (.lit 64))) ai) ai))) (.leaf (.bool (.bin .eql .u64 (.bin .and .u64 (.bin .shr .u64 ag aj) ai) ai))))))
theorem ae7:rX (ctx E0) 3000 73 (rM H5.a (rJ 0 (rq H5.a))) (rq H5.a).length=Wq:=by kernel_rfl
def Ws:List Int→List Int:=rG (r9 E0) H5 Wq
theorem ae8:rF Tryz.prog gG ⟨73,H5,Ws⟩:=sJ (sK xy) 3000 ae7 (by kernel_rfl)
def H6:Ct:=⟨[.agg [kU,kU],.agg [kU,kU]],[.agg [kU,kU],.sc .bool]⟩
def RF:rf SV :=
 (.call 124 [ag,ay,ae] 4 2 (.call 124 [aa,az,(.var .bit 5)] 6 2 aF))
theorem ae9:rX (ctx E0) 3000 75 (rM H6.a (rJ 0 (rq H6.a))) (rq H6.a).length=RF:=by kernel_rfl
def H7:List Int→List Int:=rG (r9 E0) H6 RF
theorem afa:rF Tryz.prog gG ⟨75,H6,H7⟩:=sJ (sK xy) 3000 ae9 (by kernel_rfl)
def H8:Ct:=⟨[.agg [kU,kU],.agg [kU,kU]],[.agg [kU,kU],.sc .bool]⟩
def RG:rf SV :=
 (.call 308 [ag,ay,ae] 4 2 (.call 308 [aa,az,(.var .bit 5)] 6 2 aF))
theorem afb:rX (ctx E0) 3000 309 (rM H8.a (rJ 0 (rq H8.a))) (rq H8.a).length=RG:=by kernel_rfl
def H9:List Int→List Int:=rG (r9 E0) H8 RG
theorem afc:rF Tryz.prog gG ⟨309,H8,H9⟩:=sJ (sK xy) 3000 afb (by kernel_rfl)
def Ia:Ct:=⟨[.sc kU,.sc kU],[.agg [kU,kU]]⟩
def RH:rf SV :=
 (.call 367 [aa,ag] 2 2 (.leaf (.agg [aG,aH])))
theorem afd:rX (ctx E0) 3000 347 (rM Ia.a (rJ 0 (rq Ia.a))) (rq Ia.a).length=RH:=by kernel_rfl
def Ib:List Int→List Int:=rG (r9 E0) Ia RH
theorem afe:rF Tryz.prog gG ⟨347,Ia,Ib⟩:=sJ (sK xy) 3000 afd (by kernel_rfl)
def Ic:Ct:=⟨[.agg [kU,kU],.agg [kU,kU]],[.agg [kU,kU,kU,kU]]⟩
def RI:rf SV :=
 (.leaf (.agg [aH,aG,aI,aJ]))
theorem aff:rX (ctx E0) 3000 225 (rM Ic.a (rJ 0 (rq Ic.a))) (rq Ic.a).length=RI:=by kernel_rfl
def Ie:List Int→List Int:=rG (r9 E0) Ic RI
theorem afg:rF Tryz.prog gG ⟨225,Ic,Ie⟩:=sJ (sK xy) 3000 aff (by kernel_rfl)
def Ig:Ct:=⟨[.agg [kU,kU]],[.agg [kU,kU,kU,kU]]⟩
def Wt:rf SV :=
 (.leaf (.agg [aI,aJ,aK,aK]))
theorem afh:rX (ctx E0) 3000 230 (rM Ig.a (rJ 0 (rq Ig.a))) (rq Ig.a).length=Wt:=by kernel_rfl
def Wu:List Int→List Int:=rG (r9 E0) Ig Wt
theorem afi:rF Tryz.prog gG ⟨230,Ig,Wu⟩:=sJ (sK xy) 3000 afh (by kernel_rfl)
def Ih:Ct:=⟨[.agg [kU,kU,kU,kU]],[.agg [kU,kU]]⟩
def RJ:rf SV :=
 (.leaf (.agg [aH,aG]))
theorem afj:rX (ctx E0) 3000 255 (rM Ih.a (rJ 0 (rq Ih.a))) (rq Ih.a).length=RJ:=by kernel_rfl
def DN:List Int→List Int:=rG (r9 E0) Ih RJ
theorem afk:rF Tryz.prog gG ⟨255,Ih,DN⟩:=sJ (sK xy) 3000 afj (by kernel_rfl)
def Ii:Ct:=⟨[.agg [kU,kU,kU,kU]],[.agg [kU,kU]]⟩
def RL:rf SV :=
 (.leaf (.agg [aI,aJ]))
theorem afl:rX (ctx E0) 3000 321 (rM Ii.a (rJ 0 (rq Ii.a))) (rq Ii.a).length=RL:=by kernel_rfl
def DR:List Int→List Int:=rG (r9 E0) Ii RL
theorem afm:rF Tryz.prog gG ⟨321,Ii,DR⟩:=sJ (sK xy) 3000 afl (by kernel_rfl)
def Ij:Ct:=⟨[.agg [kU,kU,kU,kU]],[.sc .bool]⟩
def Wv:rf SV :=
 (.leaf (.bool (.and af (.and ah (.and (.bin .eql .u64 az ae) (.and (.bin .eql .u64 ay ae) ai))))))
theorem afn:rX (ctx E0) 3000 202 (rM Ij.a (rJ 0 (rq Ij.a))) (rq Ij.a).length=Wv:=by kernel_rfl
def Ww:List Int→List Int:=rG (r9 E0) Ij Wv
theorem afo:rF Tryz.prog gG ⟨202,Ij,Ww⟩:=sJ (sK xy) 3000 afn (by kernel_rfl)
def Ff:Ct:=⟨[.agg [kU,kU],.sc kI],[.agg [kU,kU]]⟩
def RN:rf SV :=
 (.leaf (.agg [(.int .u64 (.bin .or .u64 (.bin .shl .u64 (.ite (.bin .lss .i64 aQ ae) ae (.ite (.bin .eql .i64 aQ ae) ag aa)) aR) (.bin .shr .u64 (.bin .shr .u64 (.ite (.bin .lss .i64 (.bin .sub .i64 aQ ai) ae) ae ag) ai) aS))),(.int .u64 (.bin .or .u64 (.bin .shl .u64 (.ite (.bin .lss .i64 (.bin .sub .i64 ae aP) ae) ae ag) aR) (.bin .shr .u64 ae aS)))]))
theorem afp:rX (ctx E0) 3000 74 (rM Ff.a (rJ 0 (rq Ff.a))) (rq Ff.a).length=RN:=by kernel_rfl
def Nz:List Int→List Int:=rG (r9 E0) Ff RN
theorem Wx:rF Tryz.prog gG ⟨74,Ff,Nz⟩:=sJ (sK xy) 3000 afp (by kernel_rfl)
def Ik:Ct:=⟨[.agg [kU,kU],.sc kI],[.agg [kU,kU]]⟩
def Wy:rf SV :=
 (.leaf (.agg [(.int .u64 (.bin .or .u64 (.bin .shl .u64 (.ite (.bin .geq .i64 aV aW) ae aa) aX) (.bin .shr .u64 (.bin .shr .u64 (.ite (.bin .geq .i64 aY aW) ae (.ite (.bin .eql .i64 aY ae) ag aa)) ai) aZ))),(.int .u64 (.bin .or .u64 (.bin .shl .u64 (.ite (.bin .geq .i64 bf aW) ae (.ite (.bin .eql .i64 bf ae) ag aa)) aX) (.bin .shr .u64 (.bin .shr .u64 (.ite (.bin .lss .i64 bg ae) ae (.ite (.bin .eql .i64 bg ae) ag aa)) ai) aZ)))]))
theorem afq:rX (ctx E0) 3000 72 (rM Ik.a (rJ 0 (rq Ik.a))) (rq Ik.a).length=Wy:=by kernel_rfl
def Wz:List Int→List Int:=rG (r9 E0) Ik Wy
theorem afr:rF Tryz.prog gG ⟨72,Ik,Wz⟩:=sJ (sK xy) 3000 afq (by kernel_rfl)
def Il:Ct:=⟨[.agg [kU,kU,kU,kU],.sc kI],[.agg [kU,kU,kU,kU]]⟩
def WA:rf SV :=
 (.leaf (.agg [(.int .u64 (.bin .or .u64 (.bin .shl .u64 (.ite (.bin .lss .i64 (.bin .sub .i64 ae bz) ae) ae aa) bE) (.bin .shr .u64 ae bG))),(.int .u64 (.bin .or .u64 (.bin .shl .u64 (.ite (.bin .lss .i64 bH ae) ae (.ite (.bin .eql .i64 bH ae) aa ag)) bE) (.bin .shr .u64 (.bin .shr .u64 (.ite (.bin .lss .i64 (.bin .sub .i64 bH ai) ae) ae aa) ai) bG))),(.int .u64 (.bin .or .u64 (.bin .shl .u64 (.ite (.bin .lss .i64 bI ae) ae (.ite (.bin .eql .i64 bI ae) aa (.ite (.bin .eql .i64 bI ai) ag az))) bE) (.bin .shr .u64 (.bin .shr .u64 (.ite (.bin .lss .i64 bJ ae) ae (.ite (.bin .eql .i64 bJ ae) aa ag)) ai) bG))),(.int .u64 (.bin .or .u64 (.bin .shl .u64 (.ite (.bin .lss .i64 bL ae) ae (.ite (.bin .eql .i64 bL ae) aa (.ite (.bin .eql .i64 bL ai) ag (.ite (.bin .eql .i64 bL aW) az ay)))) bE) (.bin .shr .u64 (.bin .shr .u64 (.ite (.bin .lss .i64 bP ae) ae (.ite (.bin .eql .i64 bP ae) aa (.ite (.bin .eql .i64 bP ai) ag az))) ai) bG)))]))
theorem afs:rX (ctx E0) 3000 226 (rM Il.a (rJ 0 (rq Il.a))) (rq Il.a).length=WA:=by kernel_rfl
def WB:List Int→List Int:=rG (r9 E0) Il WA
theorem aft:rF Tryz.prog gG ⟨226,Il,WB⟩:=sJ (sK xy) 3000 afs (by kernel_rfl)
def Im:Ct:=⟨[.agg [kU,kU,kU,kU],.sc kI],[.agg [kU,kU,kU,kU]]⟩
def WC:rf SV :=
 (.leaf (.agg [(.int .u64 (.bin .or .u64 (.bin .shl .u64 (.ite (.bin .geq .i64 bV cz) ae (.ite (.bin .eql .i64 bV ae) aa (.ite (.bin .eql .i64 bV ai) ag (.ite (.bin .eql .i64 bV aW) az ay)))) cO) (.bin .shr .u64 (.bin .shr .u64 (.ite (.bin .lss .i64 df ae) ae (.ite (.bin .eql .i64 df ae) aa (.ite (.bin .eql .i64 df ai) ag (.ite (.bin .eql .i64 df aW) az ay)))) ai) dh))),(.int .u64 (.bin .or .u64 (.bin .shl .u64 (.ite (.bin .geq .i64 di cz) ae (.ite (.bin .eql .i64 di ai) ag (.ite (.bin .eql .i64 di aW) az ay))) cO) (.bin .shr .u64 (.bin .shr .u64 (.ite (.bin .geq .i64 dw cz) ae (.ite (.bin .eql .i64 dw ae) aa (.ite (.bin .eql .i64 dw ai) ag (.ite (.bin .eql .i64 dw aW) az ay)))) ai) dh))),(.int .u64 (.bin .or .u64 (.bin .shl .u64 (.ite (.bin .geq .i64 dx cz) ae (.ite (.bin .eql .i64 dx aW) az ay)) cO) (.bin .shr .u64 (.bin .shr .u64 (.ite (.bin .geq .i64 dz cz) ae (.ite (.bin .eql .i64 dz ai) ag (.ite (.bin .eql .i64 dz aW) az ay))) ai) dh))),(.int .u64 (.bin .or .u64 (.bin .shl .u64 (.ite (.bin .geq .i64 dA cz) ae ay) cO) (.bin .shr .u64 (.bin .shr .u64 (.ite (.bin .geq .i64 dC cz) ae (.ite (.bin .eql .i64 dC aW) az ay)) ai) dh)))]))
theorem afu:rX (ctx E0) 3000 228 (rM Im.a (rJ 0 (rq Im.a))) (rq Im.a).length=WC:=by kernel_rfl
def WE:List Int→List Int:=rG (r9 E0) Im WC
theorem afv:rF Tryz.prog gG ⟨228,Im,WE⟩:=sJ (sK xy) 3000 afu (by kernel_rfl)
def Io:Ct:=⟨[.agg [kU,kU,kU,kU]],[.sc kI]⟩
def WF:rf SV :=
 (.ite (.bin .neq .u64 ay ae) (.call 342 [ay] 4 1 (.leaf (.int .i64 (.bin .add .i64 (.lit 192) bi)))) (.ite (.bin .neq .u64 az ae) (.call 342 [az] 4 1 (.leaf (.int .i64 (.bin .add .i64 aL bi)))) (.ite (.bin .neq .u64 ag ae) (.call 342 [ag] 4 1 (.leaf (.int .i64 (.bin .add .i64 (.lit 64) bi)))) (.ite (.bin .neq .u64 aa ae) (.call 342 [aa] 4 1 (.leaf (.int .i64 (.bin .add .i64 ae bi)))) (.leaf dD)))))
theorem afw:rX (ctx E0) 3000 254 (rM Io.a (rJ 0 (rq Io.a))) (rq Io.a).length=WF:=by kernel_rfl
def WG:List Int→List Int:=rG (r9 E0) Io WF
theorem afx:rF Tryz.prog gG ⟨254,Io,WG⟩:=sJ (sK xy) 3000 afw (by kernel_rfl)
def Ip:Ct:=⟨[.sc kB],[.agg [kI,kI,kI]]⟩
def RO:rf SV :=
 (.ite dG (.leaf (.agg [dD,dD,dD])) (.ite (.bin .eql .i64 dE ae) (.leaf (.agg [(.int .i64 (.lit 16)),(.int .i64 (.lit 11)),(.int .i64 (.lit 15))])) (.ite (.bin .eql .i64 dE ai) (.leaf (.agg [(.int .i64 (.lit 32)),(.int .i64 (.lit 24)),(.int .i64 (.lit 127))])) (.ite (.bin .eql .i64 dE aW) (.leaf (.agg [(.int .i64 (.lit 64)),(.int .i64 (.lit 53)),(.int .i64 (.lit 1023))])) (.leaf (.agg [(.int .i64 aL),(.int .i64 (.lit 113)),(.int .i64 (.lit 16383))]))))))
theorem afy:rX (ctx E0) 3000 71 (rM Ip.a (rJ 0 (rq Ip.a))) (rq Ip.a).length=RO:=by kernel_rfl
def Iq:List Int→List Int:=rG (r9 E0) Ip RO
theorem afz:rF Tryz.prog gG ⟨71,Ip,Iq⟩:=sJ (sK xy) 3000 afy (by kernel_rfl)
def Ir:Ct:=⟨[.sc kB,.sc .bool],[.sc .bool]⟩
def WH:rf SV :=
 (.call 323 [dE,dH,ai,bK] 2 1 (.leaf (.bool dI)))
theorem afA:rX (ctx E0) 3000 327 (rM Ir.a (rJ 0 (rq Ir.a))) (rq Ir.a).length=WH:=by kernel_rfl
def WI:List Int→List Int:=rG (r9 E0) Ir WH
theorem afB:rF Tryz.prog gG ⟨327,Ir,WI⟩:=sJ (sK xy) 3000 afA (by kernel_rfl)
def Iu:Ct:=⟨[.agg [.bool,kB,kI,kU,kU],.agg [.bool,kB,kI,kU,kU]],[.sc .bool]⟩
def WJ:rf SV :=
 (.ite (.bin .geq .i64 (.ite (.bin .eql .u8 dJ ae) ae (.ite dL ai dM)) ae) (.leaf (.bool (.bin .geq .i64 (.ite dO ae (.ite dP ai dM)) ae))) av)
theorem afC:rX (ctx E0) 3000 220 (rM Iu.a (rJ 0 (rq Iu.a))) (rq Iu.a).length=WJ:=by kernel_rfl
def WK:List Int→List Int:=rG (r9 E0) Iu WJ
theorem afD:rF Tryz.prog gG ⟨220,Iu,WK⟩:=sJ (sK xy) 3000 afC (by kernel_rfl)
def E1:List si:=⟨79,Fe,Ny⟩::⟨73,H5,Ws⟩::⟨75,H6,H7⟩::⟨309,H8,H9⟩::⟨347,Ia,Ib⟩::⟨225,Ic,Ie⟩::⟨230,Ig,Wu⟩::⟨255,Ih,DN⟩::⟨321,Ii,DR⟩::⟨202,Ij,Ww⟩::⟨74,Ff,Nz⟩::⟨72,Ik,Wz⟩::⟨226,Il,WB⟩::⟨228,Im,WE⟩::⟨254,Io,WG⟩::⟨71,Ip,Iq⟩::⟨327,Ir,WI⟩::⟨220,Iu,WK⟩::E0
theorem AA:∀ e∈E1,rF Tryz.prog gG e:=List.forall_mem_cons.2 ⟨Wp,List.forall_mem_cons.2 ⟨ae8,List.forall_mem_cons.2 ⟨afa,List.forall_mem_cons.2 ⟨afc,List.forall_mem_cons.2 ⟨afe,List.forall_mem_cons.2 ⟨afg,List.forall_mem_cons.2 ⟨afi,List.forall_mem_cons.2 ⟨afk,List.forall_mem_cons.2 ⟨afm,List.forall_mem_cons.2 ⟨afo,List.forall_mem_cons.2 ⟨Wx,List.forall_mem_cons.2 ⟨afr,List.forall_mem_cons.2 ⟨aft,List.forall_mem_cons.2 ⟨afv,List.forall_mem_cons.2 ⟨afx,List.forall_mem_cons.2 ⟨afz,List.forall_mem_cons.2 ⟨afB,List.forall_mem_cons.2 ⟨afD,xy⟩⟩⟩⟩⟩⟩⟩⟩⟩⟩⟩⟩⟩⟩⟩⟩⟩⟩
theorem WL:r9 E0 124=EZ:=BB (e:=⟨124,_,EZ⟩) rfl
theorem WM:r9 E0 308=Fa:=BB (e:=⟨308,_,Fa⟩) rfl
theorem afE:r9 E0 367=HY:=BB (e:=⟨367,_,HY⟩) rfl
open Go.RowKit
def Iw:Ct:=⟨[.sc kB],[.sc kI]⟩
def WN:rf SV :=
 (.call 71 dQ 1 3 (.leaf (.int .i64 dR)))
theorem afF:rX (ctx E1) 3000 80 (rM Iw.a (rJ 0 (rq Iw.a))) (rq Iw.a).length=WN:=by kernel_rfl
def WO:List Int→List Int:=rG (r9 E1) Iw WN
theorem afG:rF Tryz.prog gG ⟨80,Iw,WO⟩:=sJ (sK AA) 3000 afF (by kernel_rfl)
def Iy:Ct:=⟨[.sc kB],[.sc kI]⟩
def WP:rf SV :=
 (.call 71 dQ 1 3 (.leaf (.int .i64 aj)))
theorem afH:rX (ctx E1) 3000 81 (rM Iy.a (rJ 0 (rq Iy.a))) (rq Iy.a).length=WP:=by kernel_rfl
def WQ:List Int→List Int:=rG (r9 E1) Iy WP
theorem afI:rF Tryz.prog gG ⟨81,Iy,WQ⟩:=sJ (sK AA) 3000 afH (by kernel_rfl)
def DT:Ct:=⟨[.sc kB],[.sc kI]⟩
def RP:rf SV :=
 (.call 71 dQ 1 3 (.leaf (.int .i64 (.var kI 1))))
theorem afJ:rX (ctx E1) 3000 60 (rM DT.a (rJ 0 (rq DT.a))) (rq DT.a).length=RP:=by kernel_rfl
def KW:List Int→List Int:=rG (r9 E1) DT RP
theorem WR:rF Tryz.prog gG ⟨60,DT,KW⟩:=sJ (sK AA) 3000 afJ (by kernel_rfl)
def Iz:Ct:=⟨[.agg [kU,kU],.sc kI],[.agg [kU,kU]]⟩
def WS:rf SV :=
 (.call 74 [aa,ag,dS] 3 2 (.call 72 [ay,aC,dS] 5 2 dW))
theorem afK:rX (ctx E1) 3000 59 (rM Iz.a (rJ 0 (rq Iz.a))) (rq Iz.a).length=WS:=by kernel_rfl
def WT:List Int→List Int:=rG (r9 E1) Iz WS
theorem afL:rF Tryz.prog gG ⟨59,Iz,WT⟩:=sJ (sK AA) 3000 afK (by kernel_rfl)
def Fg:Ct:=⟨[.agg [kU,kU],.agg [kU,kU]],[.agg [kU,kU,kU,kU]]⟩
def RQ:rf SV :=
 (.call 347 [aa,az] 4 2 (.call 347 [ag,ay] 6 2 (.call 225 dY 8 4 (.call 347 [aa,ay] 12 2 (.call 347 [ag,az] 14 2 (.call 235 [dZ,ed,ek,eu,ae,eB,eD,ae] 16 5 (.call 235 [eF,eG,eH,eO,ae,eP,eQ,ae] 21 5 (.leaf (.agg [eU,eY,fe,(.int .u64 fq)])))))))))
theorem afM:rX (ctx E1) 3000 298 (rM Fg.a (rJ 0 (rq Fg.a))) (rq Fg.a).length=RQ:=by kernel_rfl
def NA:List Int→List Int:=rG (r9 E1) Fg RQ
theorem WU:rF Tryz.prog gG ⟨298,Fg,NA⟩:=sJ (sK AA) 3000 afM (by kernel_rfl)
def IA:Ct:=⟨[.agg [kU,kU]],[.agg [kU,kU],.sc kI]⟩
def WV:rf SV :=
 (.call 225 [aa,ag,ae,ae] 2 4 (.call 254 [az,ay,aC,dU] 6 1 (.ite (.bin .eql .i64 fu ae) (.call 255 [az,ay,aC,dU] 7 2 (.leaf (.tup [(.agg [fw,fA]),dD]))) (.call 226 [az,ay,aC,dU,fB] 7 4 (.call 255 [dX,dZ,ed,ek] 11 2 (.leaf (.tup [(.agg [fC,fF]),(.int .i64 fB)])))))))
theorem afN:rX (ctx E1) 3000 191 (rM IA.a (rJ 0 (rq IA.a))) (rq IA.a).length=WV:=by kernel_rfl
def WW:List Int→List Int:=rG (r9 E1) IA WV
theorem afO:rF Tryz.prog gG ⟨191,IA,WW⟩:=sJ (sK AA) 3000 afN (by kernel_rfl)
def IB:Ct:=⟨[.agg [kU,kU,kU,kU],.sc kI],[.sc .bool]⟩
def WX:rf SV :=
 (.call 228 fG 5 4 (.call 226 [dU,aA,dX,dZ,bi] 9 4 (.leaf (.bool (.not (.and (.bin .eql .u64 ed aa) (.and (.bin .eql .u64 ek ag) (.and (.bin .eql .u64 eu az) (.and (.bin .eql .u64 eD ay) ai)))))))))
theorem afP:rX (ctx E1) 3000 319 (rM IB.a (rJ 0 (rq IB.a))) (rq IB.a).length=WX:=by kernel_rfl
def WY:List Int→List Int:=rG (r9 E1) IB WX
theorem afQ:rF Tryz.prog gG ⟨319,IB,WY⟩:=sJ (sK AA) 3000 afP (by kernel_rfl)
def IC:Ct:=⟨[.agg [kU,kU,kU,kU]],[.agg [kU,kU,kU,kU],.sc kI]⟩
def WZ:rf SV :=
 (.call 254 fH 4 1 (.ite fI (.leaf (.tup [(.agg [aJ,aI,aG,aH]),dD])) (.call 226 [aa,ag,az,ay,fJ] 5 4 (.leaf (.tup [fK,(.int .i64 fJ)])))))
theorem afR:rX (ctx E1) 3000 320 (rM IC.a (rJ 0 (rq IC.a))) (rq IC.a).length=WZ:=by kernel_rfl
def W9:List Int→List Int:=rG (r9 E1) IC WZ
theorem afS:rF Tryz.prog gG ⟨320,IC,W9⟩:=sJ (sK AA) 3000 afR (by kernel_rfl)
def DU:Ct:=⟨[.agg [kU,kU],.sc kU,.agg [kU,kU]],[.agg [kU,kU],.sc .bool]⟩
def RS:rf SV :=
 (.call 75 [aa,ag,aa,ag] 5 3 (.call 309 [dU,(.bin .or .u64 aA az),ay,aC] 8 3 (.ite fM fT (.ite (.not fV) fT (.leaf (.tup [(.agg [dV,(.int .u64 (.bin .or .u64 aA az))]),au]))))))
theorem afT:rX (ctx E1) 3000 300 (rM DU.a (rJ 0 (rq DU.a))) (rq DU.a).length=RS:=by kernel_rfl
def Fh:List Int→List Int:=rG (r9 E1) DU RS
theorem NB:rF Tryz.prog gG ⟨300,DU,Fh⟩:=sJ (sK AA) 3000 afT (by kernel_rfl)
def Fj:Ct:=⟨[.agg [kU,kU],.agg [kU,kU]],[.sc kI]⟩
def RU:rf SV :=
 (.leaf (.int .i64 (.ite (.bin .neq .i64 gm ae) gm (.ite (.bin .neq .i64 gq ae) gq ae))))
theorem afU:rX (ctx E1) 3000 234 (rM Fj.a (rJ 0 (rq Fj.a))) (rq Fj.a).length=RU:=by kernel_rfl
def Fp:List Int→List Int:=rG (r9 E1) Fj RU
theorem Xa:rF Tryz.prog gG ⟨234,Fj,Fp⟩:=sJ (sK AA) 3000 afU (by kernel_rfl)
def E2:List si:=⟨80,Iw,WO⟩::⟨81,Iy,WQ⟩::⟨60,DT,KW⟩::⟨59,Iz,WT⟩::⟨298,Fg,NA⟩::⟨191,IA,WW⟩::⟨319,IB,WY⟩::⟨320,IC,W9⟩::⟨300,DU,Fh⟩::⟨234,Fj,Fp⟩::E1
theorem Fq:∀ e∈E2,rF Tryz.prog gG e:=List.forall_mem_cons.2 ⟨afG,List.forall_mem_cons.2 ⟨afI,List.forall_mem_cons.2 ⟨WR,List.forall_mem_cons.2 ⟨afL,List.forall_mem_cons.2 ⟨WU,List.forall_mem_cons.2 ⟨afO,List.forall_mem_cons.2 ⟨afQ,List.forall_mem_cons.2 ⟨afS,List.forall_mem_cons.2 ⟨NB,List.forall_mem_cons.2 ⟨Xa,AA⟩⟩⟩⟩⟩⟩⟩⟩⟩⟩
theorem afV:r9 E1 71=Iq:=BB (e:=⟨71,_,Iq⟩) rfl
theorem NC:r9 E1 347=Ib:=BB (e:=⟨347,_,Ib⟩) rfl
theorem afW:r9 E1 225=Ie:=BB (e:=⟨225,_,Ie⟩) rfl
theorem Xb:r9 E1 235=HZ:=BB (e:=⟨235,_,HZ⟩) rfl
theorem afX:r9 E1 75=H7:=BB (e:=⟨75,_,H7⟩) rfl
theorem afY:r9 E1 309=H9:=BB (e:=⟨309,_,H9⟩) rfl
open Go.RowKit
def IE:Ct:=⟨[.sc kB,.agg [kU,kU]],[.agg [kU,kU]]⟩
def Xc:rf SV :=
 (.call 60 dQ 3 1 (.call 59 [ag,az,dR] 4 2 (.leaf (.agg [aD,dV]))))
theorem afZ:rX (ctx E2) 3000 26 (rM IE.a (rJ 0 (rq IE.a))) (rq IE.a).length=Xc:=by kernel_rfl
def Xd:List Int→List Int:=rG (r9 E2) IE Xc
theorem af0:rF Tryz.prog gG ⟨26,IE,Xd⟩:=sJ (sK Fq) 3000 afZ (by kernel_rfl)
def IG:Ct:=⟨[.sc kB,.sc .bool,.sc kI,.agg [kU,kU]],[.agg [kU,kU]]⟩
def Xe:rf SV :=
 (.call 71 dQ 5 3 (.ite (.bin .eql .i64 gy ae) (.leaf gz) (.ite ak gP (.ite (.bin .gtr .i64 aj (.lit 1048576)) gP (.call 59 [ae,(.conv .u64 aj),gD] 8 2 gN)))))
theorem af1:rX (ctx E2) 3000 35 (rM IG.a (rJ 0 (rq IG.a))) (rq IG.a).length=Xe:=by kernel_rfl
def Xf:List Int→List Int:=rG (r9 E2) IG Xe
theorem af2:rF Tryz.prog gG ⟨35,IG,Xf⟩:=sJ (sK Fq) 3000 af1 (by kernel_rfl)
def II:Ct:=⟨[.sc kB,.sc kI],[.sc .bool]⟩
def Xg:rf SV :=
 (.ite dF (.call 80 dQ 2 1 (.leaf (.bool (.bin .gtr .i64 (.var kI 1) aj)))) av)
theorem af3:rX (ctx E2) 3000 264 (rM II.a (rJ 0 (rq II.a))) (rq II.a).length=Xg:=by kernel_rfl
def Xh:List Int→List Int:=rG (r9 E2) II Xg
theorem af4:rF Tryz.prog gG ⟨264,II,Xh⟩:=sJ (sK Fq) 3000 af3 (by kernel_rfl)
def IJ:Ct:=⟨[.agg [kU,kU,kU,kU],.sc kI],[.agg [kU,kU,kU,kU]]⟩
def Xi:rf SV :=
 (.call 228 fG 5 4 (.call 319 fG 9 1 (.ite gQ (.leaf (.agg [(.int .u64 (.bin .or .u64 dU ai)),aB,fw,fA])) (.leaf fK))))
theorem af5:rX (ctx E2) 3000 266 (rM IJ.a (rJ 0 (rq IJ.a))) (rq IJ.a).length=Xi:=by kernel_rfl
def Xj:List Int→List Int:=rG (r9 E2) IJ Xi
theorem af6:rF Tryz.prog gG ⟨266,IJ,Xj⟩:=sJ (sK Fq) 3000 af5 (by kernel_rfl)
def IK:Ct:=⟨[.agg [kU,kU,kU,kU],.sc kI],[.sc kB]⟩
def Xk:rf SV :=
 (.ite gT (.leaf gU) (.ite gV (.leaf gU) (.call 319 [aa,ag,az,ay,gX] 5 1 (.leaf (.int .u8 (.ite (.ite (.bin .eql .i64 (.bin .shr .i64 gX aO) aW) (.bin .eql .u64 (.bin .and .u64 (.bin .shr .u64 az gY) ai) ai) (.bin .eql .u64 (.bin .and .u64 (.bin .shr .u64 ay gY) ai) ai)) (.ite gZ bK aW) (.ite gZ ai ae)))))))
theorem af7:rX (ctx E2) 3000 322 (rM IK.a (rJ 0 (rq IK.a))) (rq IK.a).length=Xk:=by kernel_rfl
def Xl:List Int→List Int:=rG (r9 E2) IK Xk
theorem af8:rF Tryz.prog gG ⟨322,IK,Xl⟩:=sJ (sK Fq) 3000 af7 (by kernel_rfl)
def IL:Ct:=⟨[.agg [.bool,kB,kI,kU,kU],.agg [.bool,kB,kI,kU,kU]],[.sc kI,.agg [kU,kU,kU,kU]]⟩
def Xm:rf SV :=
 (.ite (.bin .neq .u8 dJ ai) (.ite (.bin .neq .u8 dJ aW) ib iq) iq)
theorem af9:rX (ctx E2) 3000 222 (rM IL.a (rJ 0 (rq IL.a))) (rq IL.a).length=Xm:=by kernel_rfl
def Xn:List Int→List Int:=rG (r9 E2) IL Xm
theorem aga:rF Tryz.prog gG ⟨222,IL,Xn⟩:=sJ (sK Fq) 3000 af9 (by kernel_rfl)
def E3:List si:=⟨26,IE,Xd⟩::⟨35,IG,Xf⟩::⟨264,II,Xh⟩::⟨266,IJ,Xj⟩::⟨322,IK,Xl⟩::⟨222,IL,Xn⟩::E2
theorem DV:∀ e∈E3,rF Tryz.prog gG e:=List.forall_mem_cons.2 ⟨af0,List.forall_mem_cons.2 ⟨af2,List.forall_mem_cons.2 ⟨af4,List.forall_mem_cons.2 ⟨af6,List.forall_mem_cons.2 ⟨af8,List.forall_mem_cons.2 ⟨aga,Fq⟩⟩⟩⟩⟩⟩
open Go.RowKit
def IM:Ct:=⟨[.sc kB,.sc .bool],[.agg [kU,kU]]⟩
def Xo:rf SV :=
 (.call 35 [dE,dH,ae,ae,ae] 2 2 (.leaf (.agg [aG,aH])))
theorem agb:rX (ctx E3) 3000 227 (rM IM.a (rJ 0 (rq IM.a))) (rq IM.a).length=Xo:=by kernel_rfl
def Xp:List Int→List Int:=rG (r9 E3) IM Xo
theorem agc:rF Tryz.prog gG ⟨227,IM,Xp⟩:=sJ (sK DV) 3000 agb (by kernel_rfl)
def IP:Ct:=⟨[.sc kB,.sc .bool],[.agg [kU,kU]]⟩
def Xq:rf SV :=
 (.call 80 dQ 2 1 (.call 35 [dE,dH,(.bin .add .i64 iw ai),ae,ae] 3 2 iy))
theorem agd:rX (ctx E3) 3000 127 (rM IP.a (rJ 0 (rq IP.a))) (rq IP.a).length=Xq:=by kernel_rfl
def Xr:List Int→List Int:=rG (r9 E3) IP Xq
theorem age:rF Tryz.prog gG ⟨127,IP,Xr⟩:=sJ (sK DV) 3000 agd (by kernel_rfl)
def IQ:Ct:=⟨[.sc kB,.sc .bool],[.agg [kU,kU]]⟩
def Xt:rf SV :=
 (.call 80 dQ 2 1 (.call 35 [dE,dH,iw,iA,iA] 3 2 iy))
theorem agf:rX (ctx E3) 3000 325 (rM IQ.a (rJ 0 (rq IQ.a))) (rq IQ.a).length=Xt:=by kernel_rfl
def Xu:List Int→List Int:=rG (r9 E3) IQ Xt
theorem agh:rF Tryz.prog gG ⟨325,IQ,Xu⟩:=sJ (sK DV) 3000 agf (by kernel_rfl)
def IR:Ct:=⟨[.sc kB,.agg [kU,kU]],[.sc .bool,.sc kI,.agg [kU,kU]]⟩
def Xv:rf SV :=
 (.call 71 dQ 3 3 (.ite (.bin .eql .i64 dR ae) (.leaf (.tup [au,dD,gz])) (.call 26 iB 6 2 (.call 72 [aA,dX,iC] 8 2 (.call 73 [ag,az,(.bin .sub .i64 dR ai)] 10 1 (.call 59 [dZ,ed,(.bin .sub .i64 dR bi)] 11 2 (.call 59 [ag,az,iC] 13 2 (.leaf (.tup [(.bool fV),(.int .i64 (.conv .i64 eD)),(.agg [ik,gL])])))))))))
theorem agi:rX (ctx E3) 3000 34 (rM IR.a (rJ 0 (rq IR.a))) (rq IR.a).length=Xv:=by kernel_rfl
def Xw:List Int→List Int:=rG (r9 E3) IR Xv
theorem agj:rF Tryz.prog gG ⟨34,IR,Xw⟩:=sJ (sK DV) 3000 agi (by kernel_rfl)
def IU:Ct:=⟨[.sc kB,.sc .bool,.sc kI,.agg [kU,kU]],[.agg [kU,kU]]⟩
def Xx:rf SV :=
 (.ite (.bin .eql .i64 aj ae) (.call 81 dQ 5 1 (.call 73 [ay,aC,gH] 6 1 (.ite iD (.call 35 [dE,dH,ai,ay,aC] 7 2 iE) (.call 35 [dE,dH,aj,ay,aC] 7 2 iE)))) (.call 35 [dE,dH,aj,ay,aC] 5 2 dW))
theorem agk:rX (ctx E3) 3000 267 (rM IU.a (rJ 0 (rq IU.a))) (rq IU.a).length=Xx:=by kernel_rfl
def Xy:List Int→List Int:=rG (r9 E3) IU Xx
theorem agl:rF Tryz.prog gG ⟨267,IU,Xy⟩:=sJ (sK DV) 3000 agk (by kernel_rfl)
def IV:Ct:=⟨[.sc kB],[.agg [kU,kU]]⟩
def Xz:rf SV :=
 (.call 80 dQ 1 1 (.call 81 dQ 2 1 (.call 74 [ae,ai,(.bin .sub .i64 aj aW)] 3 2 (.call 35 [dE,ae,(.bin .add .i64 (.bin .mul .i64 aW (.var kI 1)) ai),ay,aC] 5 2 dW))))
theorem agm:rX (ctx E3) 3000 194 (rM IV.a (rJ 0 (rq IV.a))) (rq IV.a).length=Xz:=by kernel_rfl
def XA:List Int→List Int:=rG (r9 E3) IV Xz
theorem agn:rF Tryz.prog gG ⟨194,IV,XA⟩:=sJ (sK DV) 3000 agm (by kernel_rfl)
def IW:Ct:=⟨[.agg [kU,kU,kU,kU],.sc kI,.sc kB,.sc .bool],[.agg [kU,kU],.sc .bool]⟩
def XB:rf SV :=
 (.ite gT iF (.ite gV iF (.ite (.not (.bin .leq .u8 (.var kB 5) cz)) iF (.call 228 [aa,ag,az,ay,fJ] 7 4 (.call 321 [dX,dZ,ed,ek] 11 2 (.call 322 fG 13 1 (.call 323 [(.var kB 5),iD,(.bin .eql .u64 (.bin .and .u64 eD ai) ai),iG] 14 1 (.ite iH (.call 75 [eu,eD,ae,ai] 15 3 (.leaf (.tup [(.agg [gM,iI]),iJ]))) (.leaf (.tup [(.agg [fC,fF]),iJ]))))))))))
theorem agp:rX (ctx E3) 3000 262 (rM IW.a (rJ 0 (rq IW.a))) (rq IW.a).length=XB:=by kernel_rfl
def XC:List Int→List Int:=rG (r9 E3) IW XB
theorem agq:rF Tryz.prog gG ⟨262,IW,XC⟩:=sJ (sK DV) 3000 agp (by kernel_rfl)
def E4:List si:=⟨227,IM,Xp⟩::⟨127,IP,Xr⟩::⟨325,IQ,Xu⟩::⟨34,IR,Xw⟩::⟨267,IU,Xy⟩::⟨194,IV,XA⟩::⟨262,IW,XC⟩::E3
theorem KX:∀ e∈E4,rF Tryz.prog gG e:=List.forall_mem_cons.2 ⟨agc,List.forall_mem_cons.2 ⟨age,List.forall_mem_cons.2 ⟨agh,List.forall_mem_cons.2 ⟨agj,List.forall_mem_cons.2 ⟨agl,List.forall_mem_cons.2 ⟨agn,List.forall_mem_cons.2 ⟨agq,DV⟩⟩⟩⟩⟩⟩⟩
open Go.RowKit
def IX:Ct:=⟨[.sc kB,.agg [kU,kU]],[.sc kB,.sc .bool]⟩
def XD:rf SV :=
 (.ite dG (.leaf (.tup [gU,au])) (.call 34 iB 3 4 (.call 79 [dU,aA] 7 1 (.call 80 dQ 8 1 (.ite fI (.ite fM (.leaf (.tup [gU,iL])) (.leaf (.tup [iM,iL]))) (.ite (.bin .lss .i64 bi (.bin .add .i64 (.bin .mul .i64 aW (.var kI 8)) ai)) (.leaf (.tup [iN,iL])) (.ite fM (.leaf (.tup [iO,iL])) (.call 81 dQ 9 1 (.call 73 [dU,aA,(.bin .sub .i64 iP aW)] 10 1 (.ite fV (.leaf (.tup [(.int .u8 cz),iL])) (.leaf (.tup [(.int .u8 (.lit 5)),iL]))))))))))))
theorem agr:rX (ctx E4) 3000 37 (rM IX.a (rJ 0 (rq IX.a))) (rq IX.a).length=XD:=by kernel_rfl
def XE:List Int→List Int:=rG (r9 E4) IX XD
theorem ags:rF Tryz.prog gG ⟨37,IX,XE⟩:=sJ (sK KX) 3000 agr (by kernel_rfl)
def IY:Ct:=⟨[.sc kB,.sc kB,.sc .bool],[.agg [kU,kU,kB]]⟩
def XF:rf SV :=
 (.ite dG iQ (.ite iR iQ (.call 327 [dJ,dI] 3 1 (.ite iK (.call 127 [dE,dI] 4 2 iT) (.call 325 [dE,dI] 4 2 iT)))))
theorem agt:rX (ctx E4) 3000 265 (rM IY.a (rJ 0 (rq IY.a))) (rq IY.a).length=XF:=by kernel_rfl
def XG:List Int→List Int:=rG (r9 E4) IY XF
theorem agu:rF Tryz.prog gG ⟨265,IY,XG⟩:=sJ (sK KX) 3000 agt (by kernel_rfl)
def IZ:Ct:=⟨[.sc kB,.agg [kU,kU]],[.agg [kU,kU]]⟩
def XH:rf SV :=
 (.call 194 dQ 3 2 (.call 34 iU 5 4 (.leaf (.agg [(.int .u64 (.bin .or .u64 ag dX)),(.int .u64 (.bin .or .u64 az dZ))]))))
theorem agv:rX (ctx E4) 3000 313 (rM IZ.a (rJ 0 (rq IZ.a))) (rq IZ.a).length=XH:=by kernel_rfl
def XI:List Int→List Int:=rG (r9 E4) IZ XH
theorem agw:rF Tryz.prog gG ⟨313,IZ,XI⟩:=sJ (sK KX) 3000 agv (by kernel_rfl)
def Ja:Ct:=⟨[.sc kB,.agg [kU,kU]],[.agg [kU,kU]]⟩
def XJ:rf SV :=
 (.call 34 iB 3 4 (.call 35 [dE,(.not iK),bi,dU,aA] 7 2 iE))
theorem agx:rX (ctx E4) 3000 76 (rM Ja.a (rJ 0 (rq Ja.a))) (rq Ja.a).length=XJ:=by kernel_rfl
def XK:List Int→List Int:=rG (r9 E4) Ja XJ
theorem agy:rF Tryz.prog gG ⟨76,Ja,XK⟩:=sJ (sK KX) 3000 agx (by kernel_rfl)
def E5:List si:=⟨37,IX,XE⟩::⟨265,IY,XG⟩::⟨313,IZ,XI⟩::⟨76,Ja,XK⟩::E4
theorem Jb:∀ e∈E5,rF Tryz.prog gG e:=List.forall_mem_cons.2 ⟨ags,List.forall_mem_cons.2 ⟨agu,List.forall_mem_cons.2 ⟨agw,List.forall_mem_cons.2 ⟨agy,KX⟩⟩⟩⟩
open Go.RowKit
def Jc:Ct:=⟨[.sc kB,.agg [kU,kU]],[.sc .bool]⟩
def XL:rf SV :=
 (.call 37 iB 3 2 (.leaf (.bool (.bin .geq .u8 iV cz))))
theorem agz:rX (ctx E5) 3000 31 (rM Jc.a (rJ 0 (rq Jc.a))) (rq Jc.a).length=XL:=by kernel_rfl
def XM:List Int→List Int:=rG (r9 E5) Jc XL
theorem agA:rF Tryz.prog gG ⟨31,Jc,XM⟩:=sJ (sK Jb) 3000 agz (by kernel_rfl)
def Jd:Ct:=⟨[.sc kB,.agg [kU,kU]],[.sc .bool]⟩
def XN:rf SV :=
 (.call 37 iB 3 2 (.ite dF (.leaf (.bool (.bin .lss .u8 iV bK))) av))
theorem agB:rX (ctx E5) 3000 57 (rM Jd.a (rJ 0 (rq Jd.a))) (rq Jd.a).length=XN:=by kernel_rfl
def XO:List Int→List Int:=rG (r9 E5) Jd XN
theorem agC:rF Tryz.prog gG ⟨57,Jd,XO⟩:=sJ (sK Jb) 3000 agB (by kernel_rfl)
def Je:Ct:=⟨[.sc kB,.agg [kU,kU]],[.agg [.bool,kB,kI,kU,kU]]⟩
def XP:rf SV :=
 (.call 37 iB 3 2 (.call 81 dQ 5 1 (.call 80 dQ 6 1 (.call 34 iB 7 4 (.ite (.bin .eql .u8 iV aW) (.call 74 [ed,ek,(.bin .sub .i64 aL gy)] 11 2 (.call 75 [eu,eD,iW,ae] 13 3 (.leaf (.agg [(.bool iX),iY,(.int .i64 (.bin .sub .i64 (.var kI 8) fu)),ik,gL])))) (.ite (.bin .eql .u8 iV ai) (.call 191 [ed,ek] 11 3 (.leaf (.agg [(.bool iX),iY,(.int .i64 (.bin .sub .i64 (.bin .sub .i64 (.bin .add .i64 (.bin .sub .i64 ai fu) aL) gy) (.var kI 13))),fC,fF]))) (.leaf (.agg [(.bool iX),iY,dD,aK,aK]))))))))
theorem agD:rX (ctx E5) 3000 125 (rM Je.a (rJ 0 (rq Je.a))) (rq Je.a).length=XP:=by kernel_rfl
def XQ:List Int→List Int:=rG (r9 E5) Je XP
theorem agE:rF Tryz.prog gG ⟨125,Je,XQ⟩:=sJ (sK Jb) 3000 agD (by kernel_rfl)
def Jf:Ct:=⟨[.sc kB,.agg [kB,.bool],.sc .bool,.sc kI,.agg [kU,kU,kU,kU]],[.agg [kU,kU,kB]]⟩
def XR:rf SV :=
 (.ite dG iQ (.ite iR iQ (.call 202 [dU,aA,dX,dZ] 9 1 (.ite gQ (.call 227 [dE,iK] 10 2 (.leaf (.agg [ig,fC,gU]))) (.call 320 [dU,aA,dX,dZ] 10 5 (.call 81 dQ 15 1 (.call 80 dQ 16 1 (.call 262 [ek,eu,eD,eB,iZ,dJ,iK] 17 3 (.call 73 [eG,eH,iZ] 20 1 (.ite ja (.call 264 [dE,jf] 21 1 (.ite jg jh (.ite jk (.ite (.not dI) jD (.call 266 jl 22 4 (.call 262 jo 26 3 (.call 267 [dE,iK,ae,jq,jr] 29 2 (.ite (.var .bool 28) (.ite (.bin .lss .i64 jf ji) jB (.leaf (.agg [jw,jA,jE]))) jC))))) (.call 267 [dE,iK,(.bin .add .i64 (.bin .sub .i64 jf ji) ai),eG,eH] 22 2 jH)))) (.call 264 [dE,je] 21 1 (.ite jg jh (.ite jk (.ite (.not dI) jD jD) (.call 267 [dE,iK,(.bin .add .i64 (.bin .sub .i64 je ji) ai),eG,eH] 22 2 jH))))))))))))))
theorem agF:rX (ctx E5) 3000 204 (rM Jf.a (rJ 0 (rq Jf.a))) (rq Jf.a).length=XR:=by kernel_rfl
def XT:List Int→List Int:=rG (r9 E5) Jf XR
theorem agG:rF Tryz.prog gG ⟨204,Jf,XT⟩:=sJ (sK Jb) 3000 agF (by kernel_rfl)
def Jg:Ct:=⟨[.sc kB,.agg [kU,kU]],[.sc .bool]⟩
def XU:rf SV :=
 (.call 37 iB 3 2 (.leaf (.bool (.bin .eql .u8 iV (.lit 5)))))
theorem agH:rX (ctx E5) 3000 196 (rM Jg.a (rJ 0 (rq Jg.a))) (rq Jg.a).length=XU:=by kernel_rfl
def XV:List Int→List Int:=rG (r9 E5) Jg XU
theorem agI:rF Tryz.prog gG ⟨196,Jg,XV⟩:=sJ (sK Jb) 3000 agH (by kernel_rfl)
def E6:List si:=⟨31,Jc,XM⟩::⟨57,Jd,XO⟩::⟨125,Je,XQ⟩::⟨204,Jf,XT⟩::⟨196,Jg,XV⟩::E5
theorem XW:∀ e∈E6,rF Tryz.prog gG e:=List.forall_mem_cons.2 ⟨agA,List.forall_mem_cons.2 ⟨agC,List.forall_mem_cons.2 ⟨agE,List.forall_mem_cons.2 ⟨agG,List.forall_mem_cons.2 ⟨agI,Jb⟩⟩⟩⟩⟩
open Go.RowKit
def Jh:Ct:=⟨[.sc kB,.agg [kU,kU]],[.agg [kU,kU]]⟩
def XX:rf SV :=
 (.call 26 iB 3 2 (.call 31 iU 5 1 (.ite gZ (.call 81 dQ 6 1 (.call 74 [ae,ai,(.bin .sub .i64 fu aW)] 7 2 (.leaf (.agg [(.int .u64 (.bin .or .u64 ay dX)),(.int .u64 (.bin .or .u64 aC dZ))])))) iy)))
theorem agJ:rX (ctx E6) 3000 195 (rM Jh.a (rJ 0 (rq Jh.a))) (rq Jh.a).length=XX:=by kernel_rfl
def XY:List Int→List Int:=rG (r9 E6) Jh XX
theorem agK:rF Tryz.prog gG ⟨195,Jh,XY⟩:=sJ (sK XW) 3000 agJ (by kernel_rfl)
def E7:List si:=⟨195,Jh,XY⟩::E6
theorem ND:∀ e∈E7,rF Tryz.prog gG e:=List.forall_mem_cons.2 ⟨agK,XW⟩
open Go.RowKit
def Ji:Ct:=⟨[.sc kB,.agg [kB,.bool],.agg [kU,kU],.agg [kU,kU]],[.agg [kU,kU,kB]]⟩
def XZ:rf SV :=
 (.ite dG iQ (.ite iR iQ (.call 125 iU 7 5 (.call 125 jI 12 5 (.call 220 jL 17 1 (.call 31 iU 18 1 (.ite (.var .bool 18) (.call 194 dQ 19 2 (.call 195 iU 21 2 (.ite jM jN (.call 196 iU 23 1 (.ite (.var .bool 23) jN (.call 196 jI 24 1 (.ite jO jN jP))))))) (.call 31 jI 19 1 (.ite jF (.call 194 dQ 20 2 (.call 195 jI 22 2 (.ite jM jQ (.call 196 iU 24 1 (.ite jO jQ (.call 196 jI 25 1 (.ite jR jQ jG))))))) (.ite (.not jM) (.ite (.bin .geq .i64 (.ite jS ae (.ite jT ai dM)) ae) (.call 127 [dE,jU] 20 2 jV) (.call 222 jL 20 5 (.call 204 [dE,dJ,dI,jU,(.var kI 20),eT,eX,eZ,fq] 25 3 (.leaf (.agg [(.int .u64 jm),jW,(.int .u8 (.var kB 27))]))))) (.call 194 dQ 20 2 (.leaf (.agg [gK,eU,iM])))))))))))))
theorem agL:rX (ctx E7) 3000 162 (rM Ji.a (rJ 0 (rq Ji.a))) (rq Ji.a).length=XZ:=by kernel_rfl
def X3:List Int→List Int:=rG (r9 E7) Ji XZ
theorem agM:rF Tryz.prog gG ⟨162,Ji,X3⟩:=sJ (sK ND) 3000 agL (by kernel_rfl)
def Jj:Ct:=⟨[.sc kB,.sc kB,.agg [kU,kU]],[.agg [kU,kU,kB],.sc .bool]⟩
def X4:rf SV :=
 (.ite jX jY (.call 31 jZ 4 1 (.ite (.not iX) jY (.call 34 jZ 5 4 (.call 81 dQ 9 1 (.call 74 [dX,dZ,(.bin .sub .i64 (.lit 129) iP)] 10 2 (.call 81 [dJ] 12 1 (.call 72 [ek,eu,(.bin .sub .i64 (.lit 129) j4)] 13 2 (.call 80 [dJ] 15 1 (.call 313 [dJ,eB,eQ] 16 2 (.call 35 [dJ,gZ,(.bin .add .i64 (.bin .mul .i64 aW iZ) ai),eF,eG] 18 2 (.call 195 [dJ,eH,eO] 20 2 (.call 196 jZ 22 1 (.ite (.var .bool 22) (.leaf (.tup [(.agg [gK,eU,iM]),fQ])) (.leaf (.tup [(.agg [gK,eU,gU]),fQ]))))))))))))))))
theorem agN:rX (ctx E7) 3000 243 (rM Jj.a (rJ 0 (rq Jj.a))) (rq Jj.a).length=X4:=by kernel_rfl
def X5:List Int→List Int:=rG (r9 E7) Jj X4
theorem agO:rF Tryz.prog gG ⟨243,Jj,X5⟩:=sJ (sK ND) 3000 agN (by kernel_rfl)
def E8:List si:=⟨162,Ji,X3⟩::⟨243,Jj,X5⟩::E7
theorem X6:∀ e∈E8,rF Tryz.prog gG e:=List.forall_mem_cons.2 ⟨agM,List.forall_mem_cons.2 ⟨agO,ND⟩⟩
open Go.RowKit
def Jk:Ct:=⟨[.sc kB,.sc kB,.agg [kB,.bool],.agg [kU,kU]],[.agg [kU,kU,kB]]⟩
def X7:rf SV :=
 (.ite (.not (.ite dG ae (.ite jX ae ai))) iQ (.ite j6 iQ (.call 243 [dE,dJ,aC,dU] 6 4 (.ite gQ (.leaf (.agg [aB,fw,(.int .u8 jJ)])) (.call 125 kg 10 5 (.ite ku (.call 127 [dJ,fV] 15 2 kv) (.call 225 [eB,eQ,ae,ae] 15 4 (.call 204 [dJ,j5,iK,fV,j4,eP,eF,eG,eH] 19 3 (.leaf (.agg [gI,gK,(.int .u8 (.var kB 21))]))))))))))
theorem agP:rX (ctx E8) 3000 176 (rM Jk.a (rJ 0 (rq Jk.a))) (rq Jk.a).length=X7:=by kernel_rfl
def X8:List Int→List Int:=rG (r9 E8) Jk X7
theorem agQ:rF Tryz.prog gG ⟨176,Jk,X8⟩:=sJ (sK X6) 3000 agP (by kernel_rfl)
def E9:List si:=⟨176,Jk,X8⟩::E8
theorem agR:∀ e∈E9,rF Tryz.prog gG e:=List.forall_mem_cons.2 ⟨agQ,X6⟩
open Go.RowKit
def X9:List si:=E9
theorem agS:∀ e∈X9,rF Tryz.prog gG e:=agR
end Go.Proofs.YtbembkamcdlhbaaGreatDoor
