import Derived.Test.YtbembkamcdlhbaaGreatDoorZDSb
set_option linter.unusedSimpArgs false
set_option linter.unusedVariables false
set_option maxRecDepth 100000
namespace Go.Proofs.YtbembkamcdlhbaaGreatDoor
open Go.RowKit
def EC:Ct:=⟨[.agg [kU,kU]],[.sc .bool]⟩
abbrev aa:X:=.var kU 0
abbrev ae:X:=.lit 0
abbrev af:X:=.bin .eql .u64 aa ae
abbrev ag:X:=.var kU 1
abbrev ah:X:=.bin .eql .u64 ag ae
abbrev ai:X:=.lit 1
abbrev aj:X:=.var kI 2
abbrev ak:X:=.bin .lss .i64 aj ae
abbrev au:SV:=.bool ae
abbrev av:qZ SV:=.leaf au
abbrev ax:X:=.lit 63
abbrev ay:X:=.var kU 3
abbrev az:X:=.var kU 2
abbrev aA:X:=.var kU 6
abbrev aB:SV:=.int .u64 aA
abbrev aC:X:=.var kU 4
abbrev aD:SV:=.int .u64 aC
abbrev aF:qZ SV:=.leaf (.tup [(.agg [aB,aD]),(.bool (.bin .neq .u64 (.var .bit 7) ae))])
abbrev aG:SV:=.int .u64 az
abbrev aH:SV:=.int .u64 ay
abbrev aI:SV:=.int .u64 ag
abbrev aJ:SV:=.int .u64 aa
abbrev aK:SV:=.int .u64 ae
abbrev aL:X:=.lit 128
abbrev aM:X:=.min (.max aj ae) aL
abbrev aN:X:=.max (.lit (-128)) aM
abbrev aO:X:=.lit 6
abbrev aP:X:=.bin .shr .i64 aN aO
abbrev aQ:X:=.bin .sub .i64 ai aP
abbrev aR:X:=.conv .u64 (.bin .and .i64 aN ax)
abbrev aS:X:=.bin .sub .u64 ax aR
abbrev aT:X:=.max (.lit (-128)) (.min (.bin .sub .i64 ae aM) aL)
abbrev aU:X:=.bin .shr .i64 aT aO
abbrev aV:X:=.bin .sub .i64 ai aU
abbrev aW:X:=.lit 2
abbrev aX:X:=.conv .u64 (.bin .and .i64 aT ax)
abbrev aY:X:=.bin .sub .i64 aV ai
abbrev aZ:X:=.bin .sub .u64 ax aX
abbrev bf:X:=.bin .sub .i64 ae aU
abbrev bg:X:=.bin .sub .i64 bf ai
abbrev bi:X:=.var kI 4
abbrev bq:X:=.lit 256
abbrev bu:X:=.min (.max bi ae) bq
abbrev bv:X:=.max (.lit (-256)) bu
abbrev bz:X:=.bin .shr .i64 bv aO
abbrev bE:X:=.conv .u64 (.bin .and .i64 bv ax)
abbrev bG:X:=.bin .sub .u64 ax bE
abbrev bH:X:=.bin .sub .i64 ai bz
abbrev bI:X:=.bin .sub .i64 aW bz
abbrev bJ:X:=.bin .sub .i64 bI ai
abbrev bK:X:=.lit 3
abbrev bL:X:=.bin .sub .i64 bK bz
abbrev bP:X:=.bin .sub .i64 bL ai
abbrev bT:X:=.max (.lit (-256)) (.min (.bin .sub .i64 ae bu) bq)
abbrev bU:X:=.bin .shr .i64 bT aO
abbrev bV:X:=.bin .sub .i64 ae bU
abbrev cz:X:=.lit 4
abbrev cO:X:=.conv .u64 (.bin .and .i64 bT ax)
abbrev df:X:=.bin .sub .i64 bV ai
abbrev dh:X:=.bin .sub .u64 ax cO
abbrev di:X:=.bin .sub .i64 ai bU
abbrev dw:X:=.bin .sub .i64 di ai
abbrev dx:X:=.bin .sub .i64 aW bU
abbrev dz:X:=.bin .sub .i64 dx ai
abbrev dA:X:=.bin .sub .i64 bK bU
abbrev dC:X:=.bin .sub .i64 dA ai
abbrev dD:SV:=.int .i64 ae
abbrev dE:X:=.var kB 0
abbrev dF:X:=.bin .lss .i64 dE cz
abbrev dG:X:=.not dF
abbrev dH:X:=.var .bool 1
abbrev dI:X:=.var .bool 2
abbrev dJ:X:=.var kB 1
abbrev dK:X:=.var kB 6
abbrev dL:X:=.bin .eql .u8 dK ae
abbrev dM:X:=.lit (-1)
abbrev dO:X:=.bin .eql .u8 dJ bK
abbrev dP:X:=.bin .eql .u8 dK bK
abbrev dQ:List X:=[dE]
abbrev dR:X:=.var kI 3
abbrev dS:X:=.bin .sub .i64 aL aj
abbrev dU:X:=.var kU 5
abbrev dV:SV:=.int .u64 dU
abbrev dW:qZ SV:=.leaf (.agg [dV,aB])
abbrev dX:X:=.var kU 7
abbrev dY:List X:=[aC,dU,aA,dX]
abbrev dZ:X:=.var kU 8
abbrev ed:X:=.var kU 9
abbrev ek:X:=.var kU 10
abbrev eu:X:=.var kU 11
abbrev eB:X:=.var kU 13
abbrev eD:X:=.var kU 12
abbrev eF:X:=.var kU 16
abbrev eG:X:=.var kU 17
abbrev eH:X:=.var kU 18
abbrev eO:X:=.var kU 19
abbrev eP:X:=.var kU 15
abbrev eQ:X:=.var kU 14
abbrev eT:X:=.var kU 21
abbrev eU:SV:=.int .u64 eT
abbrev eX:X:=.var kU 22
abbrev eY:SV:=.int .u64 eX
abbrev eZ:X:=.var kU 23
abbrev fe:SV:=.int .u64 eZ
abbrev fq:X:=.var kU 24
abbrev fu:X:=.var kI 6
abbrev fw:SV:=.int .u64 dX
abbrev fA:SV:=.int .u64 dZ
abbrev fB:X:=.bin .sub .i64 bq fu
abbrev fC:SV:=.int .u64 eu
abbrev fF:SV:=.int .u64 eD
abbrev fG:List X:=[aa,ag,az,ay,bi]
abbrev fH:List X:=[aa,ag,az,ay]
abbrev fI:X:=.bin .eql .i64 bi ae
abbrev fJ:X:=.bin .sub .i64 bq bi
abbrev fK:SV:=.agg [dV,aB,fw,fA]
abbrev fM:X:=.var .bool 7
abbrev fO:SV:=.int .u64 ed
abbrev fQ:SV:=.bool ai
abbrev fT:qZ SV:=.leaf (.tup [(.agg [fA,fO]),fQ])
abbrev fV:X:=.var .bool 10
abbrev fZ:X:=.bin .neq .u64 az az
abbrev gm:X:=.ite (.bin .neq .u64 aa aa) (.ite fZ ae dM) (.ite fZ ai (.ite (.bin .lss .u64 aa az) dM (.ite (.bin .gtr .u64 aa az) ai ae)))
abbrev gp:X:=.bin .neq .u64 ay ay
abbrev gq:X:=.ite (.bin .neq .u64 ag ag) (.ite gp ae dM) (.ite gp ai (.ite (.bin .lss .u64 ag ay) dM (.ite (.bin .gtr .u64 ag ay) ai ae)))
abbrev gy:X:=.var kI 5
abbrev gz:SV:=.agg [aK,aK]
abbrev gD:X:=.bin .sub .i64 gy fu
abbrev gF:X:=.bin .sub .i64 fu ai
abbrev gH:X:=.bin .sub .i64 gy ai
abbrev gI:SV:=.int .u64 eO
abbrev gJ:X:=.var kU 20
abbrev gK:SV:=.int .u64 gJ
abbrev gL:SV:=.int .u64 eQ
abbrev gM:SV:=.int .u64 eP
abbrev gN:qZ SV:=.call 74 [dZ,ed,gF] 10 2 (.call 59 [ay,aC,gF] 12 2 (.call 75 [ek,eu,eD,eB] 14 3 (.ite dH (.call 74 [ae,ai,gH] 17 2 (.call 75 [eQ,eP,eG,eH] 19 3 (.leaf (.agg [gI,gK])))) (.leaf (.agg [gL,gM])))))
abbrev gP:qZ SV:=.call 59 [ae,ae,gD] 8 2 gN
abbrev gQ:X:=.var .bool 9
abbrev gT:X:=.bin .lss .i64 bi ae
abbrev gU:SV:=.int .u8 ae
abbrev gV:X:=.bin .gtr .i64 bi (.lit 127)
abbrev gW:X:=.lit 255
abbrev gX:X:=.bin .sub .i64 gW bi
abbrev gY:X:=.bin .and .i64 gX ax
abbrev gZ:X:=.var .bool 5
abbrev ib:qZ SV:=.leaf (.tup [dD,(.agg [aK,aK,aK,aK])])
abbrev ic:X:=.var kI 7
abbrev ig:SV:=.int .u64 ek
abbrev ik:SV:=.int .u64 eB
abbrev il:qZ SV:=.call 298 [ay,aC,dZ,ed] 10 4 (.leaf (.tup [(.int .i64 (.bin .add .i64 (.bin .add .i64 aj ic) ai)),(.agg [ig,fC,fF,ik])]))
abbrev iq:qZ SV:=.ite (.bin .neq .u8 dK ai) (.ite (.bin .neq .u8 dK aW) ib il) il
abbrev iw:X:=.bin .mul .i64 aW aj
abbrev iy:qZ SV:=.leaf (.agg [aH,aD])
abbrev iA:X:=.lit 18446744073709551615
abbrev iB:List X:=[dE,ag,az]
abbrev iC:X:=.bin .sub .i64 bi ai
abbrev iD:X:=.var .bool 6
abbrev iE:qZ SV:=.leaf (.agg [fw,fA])
abbrev iF:qZ SV:=.leaf (.tup [gz,au])
abbrev iG:X:=.var kB 13
abbrev iH:X:=.var .bool 14
abbrev iI:SV:=.int .u64 eF
abbrev iJ:SV:=.bool (.bin .neq .u8 iG ae)
abbrev iK:X:=.var .bool 3
abbrev iL:SV:=.bool iK
abbrev iM:SV:=.int .u8 ai
abbrev iN:SV:=.int .u8 aW
abbrev iO:SV:=.int .u8 bK
abbrev iP:X:=.var kI 9
abbrev iQ:qZ SV:=.leaf (.agg [aK,aK,gU])
abbrev iR:X:=.not (.bin .leq .u8 dJ cz)
abbrev iT:qZ SV:=.leaf (.agg [aD,dV,(.int .u8 (.lit 20))])
abbrev iU:List X:=[dE,ay,aC]
abbrev iV:X:=.var kB 3
abbrev iW:X:=.lit 9223372036854775808
abbrev iX:X:=.var .bool 4
abbrev iY:SV:=.int .u8 iV
abbrev iZ:X:=.var kI 15
abbrev ja:X:=.var .bool 20
abbrev jb:X:=.lit (-1099511627776)
abbrev jc:X:=.lit 1099511627776
abbrev jd:X:=.var kI 14
abbrev je:X:=.bin .sub .i64 (.max jb (.min bi jc)) jd
abbrev jf:X:=.bin .add .i64 je ai
abbrev jg:X:=.var .bool 21
abbrev jh:qZ SV:=.call 265 [dE,dJ,iK] 22 3 (.leaf (.agg [eY,fe,(.int .u8 (.var kB 24))]))
abbrev ji:X:=.bin .sub .i64 ai (.var kI 16)
abbrev jk:X:=.bin .lss .i64 je ji
abbrev jl:List X:=[ek,eu,eD,eB,(.bin .sub .i64 ji je)]
abbrev jm:X:=.var kU 25
abbrev jo:List X:=[eX,eZ,fq,jm,iZ,dJ,iK]
abbrev jq:X:=.var kU 26
abbrev jr:X:=.var kU 27
abbrev jv:X:=.var kU 29
abbrev jw:SV:=.int .u64 jv
abbrev jy:X:=.var kU 30
abbrev jA:SV:=.int .u64 jy
abbrev jB:qZ SV:=.leaf (.agg [jw,jA,(.int .u8 (.lit 24))])
abbrev jC:qZ SV:=.leaf (.agg [jw,jA,gU])
abbrev jD:qZ SV:=.call 266 jl 22 4 (.call 262 jo 26 3 (.call 267 [dE,iK,ae,jq,jr] 29 2 (.ite (.var .bool 28) jB jC)))
abbrev jE:SV:=.int .u8 (.lit 16)
abbrev jF:X:=.var .bool 19
abbrev jG:qZ SV:=.leaf (.agg [eY,fe,gU])
abbrev jH:qZ SV:=.ite jF (.leaf (.agg [eY,fe,jE])) jG
abbrev jI:List X:=[dE,dU,aA]
abbrev jJ:X:=.var kB 8
abbrev jK:X:=.var .bool 12
abbrev jL:List X:=[fM,jJ,iP,ek,eu,jK,iG,jd,eP,eF]
abbrev jM:X:=.var .bool 17
abbrev jN:qZ SV:=.leaf (.agg [eU,eY,iM])
abbrev jO:X:=.var .bool 24
abbrev jP:qZ SV:=.leaf (.agg [eU,eY,gU])
abbrev jQ:qZ SV:=.leaf (.agg [eY,fe,iM])
abbrev jR:X:=.var .bool 25
abbrev jS:X:=.bin .eql .u8 jJ bK
abbrev jT:X:=.bin .eql .u8 iG bK
abbrev jU:X:=.not (.beq fM jK)
abbrev jV:qZ SV:=.leaf (.agg [gK,eU,gU])
abbrev jW:SV:=.int .u64 jq
abbrev jX:X:=.not (.bin .lss .i64 dJ cz)
abbrev jY:qZ SV:=.leaf (.tup [(.agg [aK,aK,gU]),au])
abbrev jZ:List X:=[dE,az,ay]
abbrev j4:X:=.var kI 12
abbrev j5:X:=.var kB 2
abbrev j6:X:=.not (.bin .leq .u8 j5 cz)
abbrev kg:List X:=[dE,aC,dU]
abbrev ku:X:=.bin .eql .u8 (.var kB 11) bK
abbrev kv:qZ SV:=.leaf (.agg [gM,iI,gU])
abbrev kw:qZ SV:=.leaf (.tup [(.agg [fw,fA,iM]),fQ])
abbrev ky:qZ SV:=.leaf (.tup [(.agg [fO,ig,iM]),fQ])
abbrev kz:X:=.var .bool 11
abbrev kC:qZ SV:=.leaf (.tup [(.agg [ig,fC,iM]),fQ])
abbrev kF:X:=.var .bool 13
abbrev kG:X:=.var .bool 8
abbrev kH:qZ SV:=.leaf (.tup [(.agg [fC,fF,iM]),fQ])
abbrev kJ:List X:=[dE,aA,dX]
abbrev kK:X:=.var .bool 15
abbrev kL:qZ SV:=.leaf (.tup [(.agg [fF,ik,iM]),fQ])
abbrev kM:X:=.var .bool 16
abbrev kN:qZ SV:=.leaf (.tup [(.agg [ik,gL,iM]),fQ])
abbrev kP:List X:=[ag,az,ay,aC]
abbrev kQ:List X:=[aA,dX,dZ,ed]
abbrev kR:X:=.max jb (.min gy jc)
abbrev kS:X:=.max jb (.min (.var kI 0) jc)
abbrev kT:qZ SV:=.leaf (.int .i64 (.max kS kR))
abbrev kV:List X:=[ag,az,ay,aC,(.bin .sub .i64 (.max kS kR) kS)]
abbrev kX:List X:=[aA,dX,dZ,ed,(.bin .sub .i64 (.max kS kR) kR)]
abbrev kY:qZ SV:=.leaf (.int .i64 ai)
abbrev kZ:qZ SV:=.leaf (.int .i64 (.var kI 20))
abbrev lc:List X:=[(.var kI 0),ag,az,ay,aC,gy,aA,dX,dZ,ed]
abbrev lg:X:=.bin .add .i64 (.var kI 10) ai
abbrev lh:X:=.bin .lss .i64 (.var kI 10) ae
abbrev ll:X:=.var kI 11
abbrev lq:X:=.bin .add .i64 ll ae
abbrev lu:List X:=[aA,dX,dZ,ed,(.bin .sub .i64 lq kR)]
abbrev lv:List X:=[ag,az,ay,aC,(.bin .sub .i64 lq kS)]
abbrev lw:qZ SV:=.call 236 [eD,eB,eQ,eP,eF,eG,eH,eO] 20 5 (.leaf (.tup [(.agg [(.int .i64 lq),gK,eU,eY,fe]),(.bool lh)]))
abbrev lC:qZ SV:=.leaf (.agg [(.int .u64 eG),(.int .u64 eH),(.int .u8 (.var kB 19))])
abbrev lF:qZ SV:=.ite ja lC (.call 127 [dE,fM] 21 2 jP)
abbrev lG:List X:=[dE,ae,ay,aC,dU,aA]
abbrev lH:List X:=[ek,eu,ae,ae]
abbrev lI:List X:=[eP,eF,ae,ae]
abbrev lJ:X:=.var kU 28
abbrev lL:List X:=[iP,eT,eX,eZ,fq,jd,jm,jq,jr,lJ]
abbrev lN:X:=.var kU 31
abbrev lQ:X:=.var kU 32
abbrev lS:X:=.var kU 33
abbrev lU:X:=.var kU 36
abbrev lV:SV:=.int .u64 lU
abbrev lW:SV:=.int .u64 (.var kU 37)
abbrev lX:qZ SV:=.leaf (.agg [lV,lW,(.int .u8 (.var kB 38))])
abbrev lY:X:=.var kU 35
abbrev lZ:SV:=.int .u64 lY
abbrev l5:qZ SV:=.call 204 [dE,dJ,dI,fM,(.var kI 29),jy,lN,lQ,lS] 35 3 (.leaf (.agg [lZ,lV,(.int .u8 (.var kB 37))]))
abbrev l6:List X:=[iH,(.var kB 15),(.var kI 16),eG,eH,jF,(.var kB 20),(.var kI 21),eX,eZ]
abbrev l7:X:=.bin .eql .u8 (.var kB 10) bK
abbrev l8:X:=.not (.beq iH jF)
abbrev l9:List X:=[dE,ae,ay,aC,dU,aA,dX,dZ]
abbrev ma:X:=.var .bool 33
abbrev mf:X:=.var kU 34
abbrev mg:SV:=.int .u64 mf
abbrev mh:SV:=.int .u64 (.var kU 38)
abbrev mi:X:=.var kU 39
abbrev mo:SV:=.int .u64 lN
abbrev mq:qZ SV:=.leaf (.agg [jA,mo,(.int .u8 (.var kB 32))])
abbrev mr:qZ SV:=.leaf (.agg [mg,lZ,gU])
abbrev mD:qZ SV:=.ite ma mq (.call 127 [dE,l8] 34 2 mr)
abbrev mF:List X:=[dE,ai,ay,aC,dU,aA,dX,dZ]
abbrev mG:qZ SV:=.ite (.not (.var .bool 29)) (.ite l7 (.ite (.not (.beq l8 gQ)) (.call 3000126 l9 30 4 (.call 3000126 [dE,(.not ma),ay,aC,dU,aA,dX,dZ] 34 4 (.ite (.var .bool 37) (.leaf (.agg [mg,lZ,(.int .u8 (.var kB 36))])) (.call 127 [dE,l8] 38 2 (.leaf (.agg [mh,(.int .u64 mi),gU])))))) (.call 3000126 l9 30 4 mD)) (.call 3000126 l9 30 4 mD)) (.call 3000126 mF 30 4 mD)
abbrev mH:List X:=[eD,eB,ae,ae]
abbrev mI:qZ SV:=.leaf (.agg [(.int .u64 (.var kU 54)),(.int .u64 (.var kU 55)),(.int .u8 (.var kB 56))])
abbrev mJ:X:=.var kU 40
abbrev mK:X:=.var kU 41
abbrev mM:SV:=.int .u64 (.var kU 44)
abbrev mO:SV:=.int .u64 (.var kU 45)
abbrev mP:qZ SV:=.call 204 [dE,dJ,dI,l8,(.var kI 38),mi,mJ,mK,(.var kU 42)] 44 3 (.leaf (.agg [mM,mO,(.int .u8 (.var kB 46))]))
abbrev mQ:qZ SV:=.ite ma mq (.ite l7 (.call 127 [dE,gQ] 34 2 mr) (.call 225 mH 34 4 (.call 198 [(.var kI 24),jm,jq,jr,lJ,ll,mf,lY,lU,(.var kU 37)] 38 5 (.ite (.not (.beq l8 gQ)) (.call 225 mH 43 4 (.call 200 [(.var kI 24),jm,jq,jr,lJ,ll,(.var kU 43),(.var kU 44),(.var kU 45),(.var kU 46)] 47 6 (.call 202 [(.var kU 48),(.var kU 49),(.var kU 50),(.var kU 51)] 53 1 (.ite (.var .bool 53) (.call 204 [dE,dJ,dI,dO,(.var kI 47),(.var kU 48),(.var kU 49),(.var kU 50),(.var kU 51)] 54 3 mI) (.call 204 [dE,dJ,dI,(.not (.beq l8 (.var .bool 52))),(.var kI 47),(.var kU 48),(.var kU 49),(.var kU 50),(.var kU 51)] 54 3 mI))))) (.call 202 [mi,mJ,mK,(.var kU 42)] 43 1 (.ite (.var .bool 43) mP mP))))))
abbrev mR:qZ SV:=.leaf (.agg [ig,fC,(.int .u8 (.var kB 12))])
abbrev mU:qZ SV:=.call 127 [dE,jU] 21 2 jP
abbrev mV:X:=.bin .eql .u8 jJ ae
abbrev mW:qZ SV:=.call 227 [dE,jU] 21 2 jP
abbrev mX:List X:=[jm,jq,jr,lJ,(.lit 100)]
abbrev mY:X:=.not (.var .bool 36)
abbrev mZ:X:=.bin .add .i64 (.bin .sub .i64 iP jd) (.lit 27)
abbrev ng:qZ SV:=.leaf (.agg [lW,mh,(.int .u8 (.var kB 39))])
abbrev ni:qZ SV:=.ite mV mW (.ite (.bin .eql .u8 iG ae) (.call 127 [dE,jU] 21 2 (.leaf (.agg [eU,eY,iN]))) (.call 225 lH 21 4 (.call 224 [eT,eX,eZ,fq,eP,eF] 25 7 (.call 226 mX 32 4 (.call 79 [jv,jy] 36 1 (.ite mY (.call 204 [dE,dJ,dI,jU,mZ,(.bin .or .u64 lQ ai),lS,mf,lY] 37 3 ng) (.call 204 [dE,dJ,dI,jU,mZ,lQ,lS,mf,lY] 37 3 ng)))))))
abbrev nk:qZ SV:=.call 26 iB 20 2 jV
abbrev nu:X:=.bin .sub .i64 j4 ai
abbrev ny:X:=.bin .lss .i64 ic nu
abbrev nA:X:=.bin .eql .i64 ic nu
abbrev nC:List X:=[dZ,ed,eB,eQ]
abbrev nD:X:=.bin .add .i64 (.min ic j4) aL
abbrev nE:X:=.not (.beq gZ ae)
abbrev nG:X:=.bin .sub .i64 ic j4
abbrev nH:X:=.bin .gtr .i64 nG ae
abbrev nI:qZ SV:=.ite (.bin .neq .u8 (.var kB 38) ae) iQ (.leaf (.agg [lV,lW,gU]))
abbrev nJ:qZ SV:=.call 230 [jr,lJ] 31 4 (.call 202 [lN,lQ,lS,mf] 35 1 (.call 204 [dE,cz,ae,(.not (.beq gZ (.not (.var .bool 35)))),nD,lN,lQ,lS,mf] 36 3 nI))
abbrev nK:qZ SV:=.call 230 [eZ,fq] 31 4 (.call 204 [dE,cz,ae,nE,nD,lN,lQ,lS,mf] 35 3 (.ite (.bin .neq .u8 (.var kB 37) ae) iQ (.leaf (.agg [lZ,lV,gU]))))
abbrev nL:qZ SV:=.call 309 [eB,eQ,eZ,fq] 27 3 (.call 234 [eZ,fq,jr,lJ] 30 1 (.ite (.bin .gtr .i64 (.var kI 30) ae) nJ (.ite (.bin .eql .i64 (.var kI 30) ae) (.ite jR nJ nK) nK)))
abbrev nM:X:=.bin .gtr .i64 (.var kI 26) ae
abbrev nO:SV:=.int .u64 lS
abbrev nP:qZ SV:=.ite (.bin .neq .u8 (.var kB 34) ae) iQ (.leaf (.agg [(.int .u64 lQ),nO,gU]))
abbrev nQ:qZ SV:=.call 230 [eZ,fq] 27 4 (.call 202 [jr,lJ,jv,jy] 31 1 (.call 204 [dE,cz,ae,(.not (.beq gZ (.not (.var .bool 31)))),nD,jr,lJ,jv,jy] 32 3 nP))
abbrev nR:X:=.bin .eql .i64 (.var kI 26) ae
abbrev nS:qZ SV:=.call 204 [dE,cz,ae,nE,nD,jr,lJ,jv,jy] 31 3 (.ite (.bin .neq .u8 (.var kB 33) ae) iQ (.leaf (.agg [mo,(.int .u64 lQ),gU])))
abbrev nT:qZ SV:=.call 230 [dZ,ed] 27 4 nS
abbrev nU:qZ SV:=.call 26 iB 21 2 jP
abbrev nV:X:=.bin .neq .u8 (.var kB 28) ae
abbrev nX:qZ SV:=.leaf (.agg [jW,(.int .u64 jr),gU])
abbrev nY:qZ SV:=.call 230 [lJ,jv] 32 4 (.call 202 [lQ,lS,mf,lY] 36 1 (.call 204 [dE,cz,ae,(.not (.beq gZ mY)),nD,lQ,lS,mf,lY] 37 3 (.ite (.bin .neq .u8 (.var kB 39) ae) iQ (.leaf (.agg [lW,mh,gU])))))
abbrev nZ:qZ SV:=.call 230 [fq,jm] 32 4 (.call 204 [dE,cz,ae,nE,nD,lQ,lS,mf,lY] 36 3 nI)
abbrev og:qZ SV:=.call 309 [eB,eQ,fq,jm] 28 3 (.call 234 [fq,jm,lJ,jv] 31 1 (.ite (.bin .gtr .i64 (.var kI 31) ae) nY (.ite (.bin .eql .i64 (.var kI 31) ae) (.ite (.var .bool 26) nY nZ) nZ)))
abbrev oh:X:=.bin .gtr .i64 (.var kI 27) ae
abbrev ol:qZ SV:=.call 230 [fq,jm] 28 4 (.call 202 [lJ,jv,jy,lN] 32 1 (.call 204 [dE,cz,ae,(.not (.beq gZ (.not (.var .bool 32)))),nD,lJ,jv,jy,lN] 33 3 (.ite (.bin .neq .u8 (.var kB 35) ae) iQ (.leaf (.agg [nO,mg,gU])))))
abbrev om:X:=.bin .eql .i64 (.var kI 27) ae
abbrev oo:qZ SV:=.call 204 [dE,cz,ae,nE,nD,lJ,jv,jy,lN] 32 3 nP
abbrev oq:qZ SV:=.call 230 [dZ,ed] 28 4 oo
abbrev ou:qZ SV:=.ite ku nU (.ite ny nU (.ite nA (.call 230 [dZ,ed] 21 4 (.call 234 nC 25 1 (.ite (.bin .gtr .i64 (.var kI 25) ae) (.call 230 [eB,eQ] 26 4 (.call 230 [eB,eQ] 30 4 (.call 235 [jq,jr,lJ,jv,jy,lN,lQ,lS] 34 5 (.call 236 [mf,lY,lU,(.var kU 37),eT,eX,eZ,fq] 39 5 (.call 202 [mi,mJ,mK,(.var kU 42)] 44 1 (.call 204 [dE,cz,ae,(.not (.beq gZ (.not (.var .bool 44)))),nD,mi,mJ,mK,(.var kU 42)] 45 3 (.ite (.bin .neq .u8 (.var kB 47) ae) iQ (.leaf (.agg [mO,(.int .u64 (.var kU 46)),gU]))))))))) (.call 204 [dE,cz,ae,nE,nD,eT,eX,eZ,fq] 26 3 (.ite nV iQ nX))))) (.call 309 nC 21 3 (.ite (.not (.var .bool 23)) (.ite nH (.call 310 [eT,eX,nG,eB,eQ] 24 4 og) (.call 309 [eB,eQ,eT,eX] 24 3 (.call 234 [eT,eX,fq,jm] 27 1 (.ite oh ol (.ite om ol (.call 230 [eT,eX] 28 4 oo)))))) (.ite nH (.call 310 [dZ,ed,nG,eB,eQ] 24 4 og) (.call 309 [eB,eQ,dZ,ed] 24 3 (.call 234 [dZ,ed,fq,jm] 27 1 (.ite oh ol (.ite om oq oq)))))))))
abbrev ow:qZ SV:=.ite ja lC (.ite dL nU ou)
abbrev oz:qZ SV:=.leaf (.agg [gL,gM,gU])
abbrev oC:List X:=[dZ,ed,ae,ae]
abbrev oD:X:=.bin .sub .i64 ic gW
abbrev oF:X:=.bin .add .i64 (.bin .quo .i64 (.bin .add .i64 oD ai) aW) (.lit 155)
abbrev oG:qZ SV:=.leaf (.agg [nO,mg,(.int .u8 (.var kB 35))])
abbrev oH:X:=.bin .add .i64 (.bin .quo .i64 oD aW) (.lit 155)
abbrev oI:qZ SV:=.leaf (.agg [jw,jA,(.int .u8 (.var kB 31))])
abbrev oJ:qZ SV:=.ite dP (.call 127 [dE,gZ] 14 2 oz) (.call 225 oC 14 4 (.ite (.bin .neq .i64 (.bin .rem .i64 oD aW) ae) (.call 228 [eQ,eP,eF,eG,ai] 18 4 (.call 229 [eH,eO,gJ,eT] 22 3 (.call 230 [eX,eZ] 25 4 (.call 226 mX 29 4 (.ite (.not jO) (.call 204 [dE,dJ,dI,ae,oF,(.bin .or .u64 jv ai),jy,lN,lQ] 33 3 oG) (.call 204 [dE,dJ,dI,ae,oF,jv,jy,lN,lQ] 33 3 oG)))))) (.call 229 [eQ,eP,eF,eG] 18 3 (.call 230 [eH,eO] 21 4 (.call 226 [eT,eX,eZ,fq,(.lit 100)] 25 4 (.ite (.not ja) (.call 204 [dE,dJ,dI,ae,oH,(.bin .or .u64 jm ai),jq,jr,lJ] 29 3 oI) (.call 204 [dE,dJ,dI,ae,oH,jm,jq,jr,lJ] 29 3 oI)))))))
abbrev oK:List X:=[dE,ae,ay,aC]
abbrev oL:qZ SV:=.call 227 [dE,gZ] 14 2 oz
abbrev oM:X:=.conv .u64 (.conv .i64 (.conv .i32 aC))
abbrev oN:X:=.bin .eql .u64 (.bin .shr .u64 oM ax) ai
abbrev oO:qZ SV:=.leaf (.agg [dV,aB,(.int .u8 (.var kB 7))])
abbrev oP:X:=.bin .eql .u8 dE ai
abbrev oQ:X:=.bin .eql .u8 dE aW
abbrev oU:X:=.bin .eql .u64 (.bin .shr .u64 aC ax) ai
abbrev oV:qZ SV:=.leaf (.bool (.bin .eql .u64 ag ag))
abbrev oZ:X:=.bin .eql .u8 dE bK
abbrev o9:qZ SV:=.leaf (.agg [aK,gU])
abbrev pg:X:=.bin .eql .i64 dJ ae
abbrev pq:X:=.bin .eql .i64 dJ ai
abbrev pu:X:=.bin .eql .i64 dJ aW
abbrev pz:X:=.ite pg (.lit 2147483648) (.ite pq ae (.ite pu iW ae))
abbrev pE:qZ SV:=.leaf (.agg [(.int .u64 (.bin .sub .u64 ae pz)),iM])
abbrev pF:X:=.bin .gtr .i64 ic (.lit 64)
abbrev pG:X:=.bin .lss .i64 ic ae
abbrev pI:List X:=[ek,eu,eD,eB,(.bin .sub .i64 (.bin .sub .i64 ae ic) ai)]
abbrev pJ:List X:=[eQ,eP,eF,eG,ae,j5,gZ]
abbrev pK:X:=.bin .gtr .i64 (.var kI 21) ae
abbrev pM:SV:=.int .u64 (.bin .sub .u64 ae eO)
abbrev pO:List X:=[ek,eu,eD,eB,(.bin .add .i64 ic ai),j5,gZ]
abbrev pQ:X:=.bin .gtr .i64 (.var kI 17) ae
abbrev pR:SV:=.int .u64 (.bin .sub .u64 ae eP)
abbrev pU:X:=.ite pg (.lit 2147483647) (.ite pq (.lit 4294967295) (.ite pu (.lit 9223372036854775807) iA))
abbrev pV:qZ SV:=.leaf (.agg [(.int .u64 pU),iM])
abbrev pW:qZ SV:=.ite dI (.leaf (.agg [aK,aK,jE])) iQ
abbrev pX:qZ SV:=.leaf (.agg [jA,mo,gU])
abbrev pY:qZ SV:=.leaf (.tup [gU,gU])
abbrev qa:qZ SV:=.leaf (.tup [iO,iM])
abbrev qc:qZ SV:=.ite fM qa (.leaf (.tup [iO,gU]))
abbrev qd:qZ SV:=.ite kG qa (.leaf (.tup [iO,gU]))
abbrev qf:qZ SV:=.ite fM pY (.leaf (.tup [iN,gU]))
abbrev qg:qZ SV:=.leaf (.tup [iM,gU])
abbrev qh:qZ SV:=.ite jU qf (.ite fM (.leaf (.tup [iN,gU])) pY)
abbrev qi:qZ SV:=.ite jU qf (.ite fM (.leaf (.tup [(.int .u8 (.bin .add .u8 ai (.conv .u8 (.bin .sub .i64 ae (.var kI 25))))),gU])) (.leaf (.tup [(.int .u8 (.bin .add .u8 ai (.conv .u8 (.var kI 25)))),gU])))
abbrev qj:qZ SV:=.call 125 iB 7 5 (.call 125 iU 12 5 (.ite jS (.ite jT (.ite jU qf (.ite fM qg qg)) (.ite jU qf qf)) (.ite jT (.ite mV qh qh) (.call 225 lH 17 4 (.call 225 lI 21 4 (.call 258 [iP,eG,eH,eO,gJ,jd,eT,eX,eZ,fq] 25 1 (.ite mV (.ite (.bin .eql .u8 iG ae) qg qi) qi)))))))
abbrev ql:X:=.not (.bin .leq .u8 iV cz)
abbrev qm:X:=.bin .gtr .u8 (.var kB 4) ai
abbrev qo:X:=.not (.bin .eql .u8 j5 ae)
abbrev qp:List X:=[dJ,dU,aA]
abbrev qw:List X:=[dJ,dX,dZ]
abbrev qx:X:=.not (.and (.bin .eql .u64 ed ae) (.and (.bin .eql .u64 ek ae) ai))
abbrev qy:qZ SV:=.ite jX kY (.ite ql kY (.ite qm kY (.ite qo kY (.call 115 qp 11 1 (.ite kz (.call 115 qw 12 1 (.ite jK (.ite qx kY (.leaf dD)) kY)) kY)))))
abbrev qz:X:=.bin .eql .u8 dE (.lit 5)
abbrev qA:X:=.and (.bin .eql .u64 dX ae) (.and (.bin .eql .u64 dZ ae) ai)
abbrev qB:qZ SV:=.ite kz (.ite qA (.ite qx kY (.leaf dD)) kY) kY
abbrev qC:qZ SV:=.ite jX kY (.ite ql kY (.ite qm kY (.ite qo kY (.call 115 qp 11 1 qB))))
abbrev qD:X:=.bin .eql .u8 dE (.lit 7)
abbrev qE:X:=.bin .eql .u8 dE (.lit 8)
abbrev qF:X:=.bin .eql .u8 dE (.lit 9)
abbrev qG:X:=.bin .eql .u8 dE (.lit 10)
abbrev qH:X:=.not (.bin .lss .i64 j5 cz)
abbrev qI:qZ SV:=.ite jX kY (.ite ql kY (.ite qm kY (.ite qH kY (.call 115 qp 11 1 qB))))
abbrev qJ:X:=.bin .eql .u8 dE (.lit 11)
abbrev qK:X:=.bin .eql .u8 dE (.lit 12)
abbrev qL:X:=.bin .eql .u64 dU ae
abbrev qM:X:=.bin .eql .u8 dE (.lit 13)
abbrev qN:X:=.bin .eql .u8 dE (.lit 14)
abbrev qO:qZ SV:=.leaf (.agg [(.int .i64 ai),aK,aK,gU])
abbrev qP:X:=.bin .eql .u8 (.var kB 4) ai
abbrev qQ:List X:=[dJ,iV,qP,dU,aA,dX,dZ]
abbrev qR:qZ SV:=.leaf (.agg [dD,ik,gL,(.int .u8 (.var kB 15))])
abbrev qU:SV:=.int .u8 (.var kB 14)
abbrev qV:qZ SV:=.leaf (.agg [dD,fF,ik,qU])
abbrev qW:List X:=[dJ,dU,aA,dX,dZ]
abbrev qX:qZ SV:=.leaf (.agg [dD,aK,(.int .u64 iG),qU])
def QX:qZ SV :=
 (.leaf (.bool (.and af (.and ah ai))))
theorem aej:rU (ctx E0) 3000 79 (rH EC.a (rG 0 (q9 EC.a))) (q9 EC.a).length=QX:=by kernel_rfl
def MU:List Int→List Int:=rE (rY E0) EC QX
theorem VL:rD Tryz.prog gG ⟨79,EC,MU⟩:=sG (sH xc) 3000 aej (by kernel_rfl)
def GK:Ct:=⟨[.agg [kU,kU],.sc kI],[.sc .bool]⟩
def VM:qZ SV :=
 (.ite ak av (.ite (.bin .gtr .i64 aj (.lit 127)) av (.ite (.bin .gtr .i64 aj ax) (.leaf (.bool (.bin .eql .u64 (.bin .and .u64 (.bin .shr .u64 aa (.bin .sub .i64 aj (.lit 64))) ai) ai))) (.leaf (.bool (.bin .eql .u64 (.bin .and .u64 (.bin .shr .u64 ag aj) ai) ai))))))
theorem aek:rU (ctx E0) 3000 73 (rH GK.a (rG 0 (q9 GK.a))) (q9 GK.a).length=VM:=by kernel_rfl
def VN:List Int→List Int:=rE (rY E0) GK VM
theorem ael:rD Tryz.prog gG ⟨73,GK,VN⟩:=sG (sH xc) 3000 aek (by kernel_rfl)
def GL:Ct:=⟨[.agg [kU,kU],.agg [kU,kU]],[.agg [kU,kU],.sc .bool]⟩
def QY:qZ SV :=
 (.call 124 [ag,ay,ae] 4 2 (.call 124 [aa,az,(.var .bit 5)] 6 2 aF))
theorem aem:rU (ctx E0) 3000 75 (rH GL.a (rG 0 (q9 GL.a))) (q9 GL.a).length=QY:=by kernel_rfl
def GM:List Int→List Int:=rE (rY E0) GL QY
theorem aen:rD Tryz.prog gG ⟨75,GL,GM⟩:=sG (sH xc) 3000 aem (by kernel_rfl)
def GN:Ct:=⟨[.agg [kU,kU],.agg [kU,kU]],[.agg [kU,kU],.sc .bool]⟩
def QZ:qZ SV :=
 (.call 308 [ag,ay,ae] 4 2 (.call 308 [aa,az,(.var .bit 5)] 6 2 aF))
theorem aeo:rU (ctx E0) 3000 309 (rH GN.a (rG 0 (q9 GN.a))) (q9 GN.a).length=QZ:=by kernel_rfl
def GQ:List Int→List Int:=rE (rY E0) GN QZ
theorem aep:rD Tryz.prog gG ⟨309,GN,GQ⟩:=sG (sH xc) 3000 aeo (by kernel_rfl)
def GR:Ct:=⟨[.sc kU,.sc kU],[.agg [kU,kU]]⟩
def Q9:qZ SV :=
 (.call 367 [aa,ag] 2 2 (.leaf (.agg [aG,aH])))
theorem aeq:rU (ctx E0) 3000 347 (rH GR.a (rG 0 (q9 GR.a))) (q9 GR.a).length=Q9:=by kernel_rfl
def GU:List Int→List Int:=rE (rY E0) GR Q9
theorem aer:rD Tryz.prog gG ⟨347,GR,GU⟩:=sG (sH xc) 3000 aeq (by kernel_rfl)
def GV:Ct:=⟨[.agg [kU,kU],.agg [kU,kU]],[.agg [kU,kU,kU,kU]]⟩
def Ra:qZ SV :=
 (.leaf (.agg [aH,aG,aI,aJ]))
theorem aes:rU (ctx E0) 3000 225 (rH GV.a (rG 0 (q9 GV.a))) (q9 GV.a).length=Ra:=by kernel_rfl
def GX:List Int→List Int:=rE (rY E0) GV Ra
theorem aet:rD Tryz.prog gG ⟨225,GV,GX⟩:=sG (sH xc) 3000 aes (by kernel_rfl)
def GY:Ct:=⟨[.agg [kU,kU]],[.agg [kU,kU,kU,kU]]⟩
def VO:qZ SV :=
 (.leaf (.agg [aI,aJ,aK,aK]))
theorem aeu:rU (ctx E0) 3000 230 (rH GY.a (rG 0 (q9 GY.a))) (q9 GY.a).length=VO:=by kernel_rfl
def VP:List Int→List Int:=rE (rY E0) GY VO
theorem aev:rD Tryz.prog gG ⟨230,GY,VP⟩:=sG (sH xc) 3000 aeu (by kernel_rfl)
def GZ:Ct:=⟨[.agg [kU,kU,kU,kU]],[.agg [kU,kU]]⟩
def Rb:qZ SV :=
 (.leaf (.agg [aH,aG]))
theorem aew:rU (ctx E0) 3000 255 (rH GZ.a (rG 0 (q9 GZ.a))) (q9 GZ.a).length=Rb:=by kernel_rfl
def Dj:List Int→List Int:=rE (rY E0) GZ Rb
theorem aex:rD Tryz.prog gG ⟨255,GZ,Dj⟩:=sG (sH xc) 3000 aew (by kernel_rfl)
def G9:Ct:=⟨[.agg [kU,kU,kU,kU]],[.agg [kU,kU]]⟩
def Rc:qZ SV :=
 (.leaf (.agg [aI,aJ]))
theorem aey:rU (ctx E0) 3000 321 (rH G9.a (rG 0 (q9 G9.a))) (q9 G9.a).length=Rc:=by kernel_rfl
def Dk:List Int→List Int:=rE (rY E0) G9 Rc
theorem aez:rD Tryz.prog gG ⟨321,G9,Dk⟩:=sG (sH xc) 3000 aey (by kernel_rfl)
def Ha:Ct:=⟨[.agg [kU,kU,kU,kU]],[.sc .bool]⟩
def VQ:qZ SV :=
 (.leaf (.bool (.and af (.and ah (.and (.bin .eql .u64 az ae) (.and (.bin .eql .u64 ay ae) ai))))))
theorem aeA:rU (ctx E0) 3000 202 (rH Ha.a (rG 0 (q9 Ha.a))) (q9 Ha.a).length=VQ:=by kernel_rfl
def VR:List Int→List Int:=rE (rY E0) Ha VQ
theorem aeB:rD Tryz.prog gG ⟨202,Ha,VR⟩:=sG (sH xc) 3000 aeA (by kernel_rfl)
def ED:Ct:=⟨[.agg [kU,kU],.sc kI],[.agg [kU,kU]]⟩
def Re:qZ SV :=
 (.leaf (.agg [(.int .u64 (.bin .or .u64 (.bin .shl .u64 (.ite (.bin .lss .i64 aQ ae) ae (.ite (.bin .eql .i64 aQ ae) ag aa)) aR) (.bin .shr .u64 (.bin .shr .u64 (.ite (.bin .lss .i64 (.bin .sub .i64 aQ ai) ae) ae ag) ai) aS))),(.int .u64 (.bin .or .u64 (.bin .shl .u64 (.ite (.bin .lss .i64 (.bin .sub .i64 ae aP) ae) ae ag) aR) (.bin .shr .u64 ae aS)))]))
theorem aeC:rU (ctx E0) 3000 74 (rH ED.a (rG 0 (q9 ED.a))) (q9 ED.a).length=Re:=by kernel_rfl
def MV:List Int→List Int:=rE (rY E0) ED Re
theorem VS:rD Tryz.prog gG ⟨74,ED,MV⟩:=sG (sH xc) 3000 aeC (by kernel_rfl)
def Hd:Ct:=⟨[.agg [kU,kU],.sc kI],[.agg [kU,kU]]⟩
def VT:qZ SV :=
 (.leaf (.agg [(.int .u64 (.bin .or .u64 (.bin .shl .u64 (.ite (.bin .geq .i64 aV aW) ae aa) aX) (.bin .shr .u64 (.bin .shr .u64 (.ite (.bin .geq .i64 aY aW) ae (.ite (.bin .eql .i64 aY ae) ag aa)) ai) aZ))),(.int .u64 (.bin .or .u64 (.bin .shl .u64 (.ite (.bin .geq .i64 bf aW) ae (.ite (.bin .eql .i64 bf ae) ag aa)) aX) (.bin .shr .u64 (.bin .shr .u64 (.ite (.bin .lss .i64 bg ae) ae (.ite (.bin .eql .i64 bg ae) ag aa)) ai) aZ)))]))
theorem aeD:rU (ctx E0) 3000 72 (rH Hd.a (rG 0 (q9 Hd.a))) (q9 Hd.a).length=VT:=by kernel_rfl
def VU:List Int→List Int:=rE (rY E0) Hd VT
theorem aeE:rD Tryz.prog gG ⟨72,Hd,VU⟩:=sG (sH xc) 3000 aeD (by kernel_rfl)
def He:Ct:=⟨[.agg [kU,kU,kU,kU],.sc kI],[.agg [kU,kU,kU,kU]]⟩
def VV:qZ SV :=
 (.leaf (.agg [(.int .u64 (.bin .or .u64 (.bin .shl .u64 (.ite (.bin .lss .i64 (.bin .sub .i64 ae bz) ae) ae aa) bE) (.bin .shr .u64 ae bG))),(.int .u64 (.bin .or .u64 (.bin .shl .u64 (.ite (.bin .lss .i64 bH ae) ae (.ite (.bin .eql .i64 bH ae) aa ag)) bE) (.bin .shr .u64 (.bin .shr .u64 (.ite (.bin .lss .i64 (.bin .sub .i64 bH ai) ae) ae aa) ai) bG))),(.int .u64 (.bin .or .u64 (.bin .shl .u64 (.ite (.bin .lss .i64 bI ae) ae (.ite (.bin .eql .i64 bI ae) aa (.ite (.bin .eql .i64 bI ai) ag az))) bE) (.bin .shr .u64 (.bin .shr .u64 (.ite (.bin .lss .i64 bJ ae) ae (.ite (.bin .eql .i64 bJ ae) aa ag)) ai) bG))),(.int .u64 (.bin .or .u64 (.bin .shl .u64 (.ite (.bin .lss .i64 bL ae) ae (.ite (.bin .eql .i64 bL ae) aa (.ite (.bin .eql .i64 bL ai) ag (.ite (.bin .eql .i64 bL aW) az ay)))) bE) (.bin .shr .u64 (.bin .shr .u64 (.ite (.bin .lss .i64 bP ae) ae (.ite (.bin .eql .i64 bP ae) aa (.ite (.bin .eql .i64 bP ai) ag az))) ai) bG)))]))
theorem aeF:rU (ctx E0) 3000 226 (rH He.a (rG 0 (q9 He.a))) (q9 He.a).length=VV:=by kernel_rfl
def VW:List Int→List Int:=rE (rY E0) He VV
theorem aeG:rD Tryz.prog gG ⟨226,He,VW⟩:=sG (sH xc) 3000 aeF (by kernel_rfl)
def Hf:Ct:=⟨[.agg [kU,kU,kU,kU],.sc kI],[.agg [kU,kU,kU,kU]]⟩
def VX:qZ SV :=
 (.leaf (.agg [(.int .u64 (.bin .or .u64 (.bin .shl .u64 (.ite (.bin .geq .i64 bV cz) ae (.ite (.bin .eql .i64 bV ae) aa (.ite (.bin .eql .i64 bV ai) ag (.ite (.bin .eql .i64 bV aW) az ay)))) cO) (.bin .shr .u64 (.bin .shr .u64 (.ite (.bin .lss .i64 df ae) ae (.ite (.bin .eql .i64 df ae) aa (.ite (.bin .eql .i64 df ai) ag (.ite (.bin .eql .i64 df aW) az ay)))) ai) dh))),(.int .u64 (.bin .or .u64 (.bin .shl .u64 (.ite (.bin .geq .i64 di cz) ae (.ite (.bin .eql .i64 di ai) ag (.ite (.bin .eql .i64 di aW) az ay))) cO) (.bin .shr .u64 (.bin .shr .u64 (.ite (.bin .geq .i64 dw cz) ae (.ite (.bin .eql .i64 dw ae) aa (.ite (.bin .eql .i64 dw ai) ag (.ite (.bin .eql .i64 dw aW) az ay)))) ai) dh))),(.int .u64 (.bin .or .u64 (.bin .shl .u64 (.ite (.bin .geq .i64 dx cz) ae (.ite (.bin .eql .i64 dx aW) az ay)) cO) (.bin .shr .u64 (.bin .shr .u64 (.ite (.bin .geq .i64 dz cz) ae (.ite (.bin .eql .i64 dz ai) ag (.ite (.bin .eql .i64 dz aW) az ay))) ai) dh))),(.int .u64 (.bin .or .u64 (.bin .shl .u64 (.ite (.bin .geq .i64 dA cz) ae ay) cO) (.bin .shr .u64 (.bin .shr .u64 (.ite (.bin .geq .i64 dC cz) ae (.ite (.bin .eql .i64 dC aW) az ay)) ai) dh)))]))
theorem aeH:rU (ctx E0) 3000 228 (rH Hf.a (rG 0 (q9 Hf.a))) (q9 Hf.a).length=VX:=by kernel_rfl
def VY:List Int→List Int:=rE (rY E0) Hf VX
theorem aeI:rD Tryz.prog gG ⟨228,Hf,VY⟩:=sG (sH xc) 3000 aeH (by kernel_rfl)
def Hg:Ct:=⟨[.agg [kU,kU,kU,kU]],[.sc kI]⟩
def VZ:qZ SV :=
 (.ite (.bin .neq .u64 ay ae) (.call 342 [ay] 4 1 (.leaf (.int .i64 (.bin .add .i64 (.lit 192) bi)))) (.ite (.bin .neq .u64 az ae) (.call 342 [az] 4 1 (.leaf (.int .i64 (.bin .add .i64 aL bi)))) (.ite (.bin .neq .u64 ag ae) (.call 342 [ag] 4 1 (.leaf (.int .i64 (.bin .add .i64 (.lit 64) bi)))) (.ite (.bin .neq .u64 aa ae) (.call 342 [aa] 4 1 (.leaf (.int .i64 (.bin .add .i64 ae bi)))) (.leaf dD)))))
theorem aeJ:rU (ctx E0) 3000 254 (rH Hg.a (rG 0 (q9 Hg.a))) (q9 Hg.a).length=VZ:=by kernel_rfl
def V3:List Int→List Int:=rE (rY E0) Hg VZ
theorem aeK:rD Tryz.prog gG ⟨254,Hg,V3⟩:=sG (sH xc) 3000 aeJ (by kernel_rfl)
def Hl:Ct:=⟨[.sc kB],[.agg [kI,kI,kI]]⟩
def Rf:qZ SV :=
 (.ite dG (.leaf (.agg [dD,dD,dD])) (.ite (.bin .eql .i64 dE ae) (.leaf (.agg [(.int .i64 (.lit 16)),(.int .i64 (.lit 11)),(.int .i64 (.lit 15))])) (.ite (.bin .eql .i64 dE ai) (.leaf (.agg [(.int .i64 (.lit 32)),(.int .i64 (.lit 24)),(.int .i64 (.lit 127))])) (.ite (.bin .eql .i64 dE aW) (.leaf (.agg [(.int .i64 (.lit 64)),(.int .i64 (.lit 53)),(.int .i64 (.lit 1023))])) (.leaf (.agg [(.int .i64 aL),(.int .i64 (.lit 113)),(.int .i64 (.lit 16383))]))))))
theorem aeL:rU (ctx E0) 3000 71 (rH Hl.a (rG 0 (q9 Hl.a))) (q9 Hl.a).length=Rf:=by kernel_rfl
def Hm:List Int→List Int:=rE (rY E0) Hl Rf
theorem aeM:rD Tryz.prog gG ⟨71,Hl,Hm⟩:=sG (sH xc) 3000 aeL (by kernel_rfl)
def Ho:Ct:=⟨[.sc kB,.sc .bool],[.sc .bool]⟩
def V5:qZ SV :=
 (.call 323 [dE,dH,ai,bK] 2 1 (.leaf (.bool dI)))
theorem aeN:rU (ctx E0) 3000 327 (rH Ho.a (rG 0 (q9 Ho.a))) (q9 Ho.a).length=V5:=by kernel_rfl
def V6:List Int→List Int:=rE (rY E0) Ho V5
theorem aeO:rD Tryz.prog gG ⟨327,Ho,V6⟩:=sG (sH xc) 3000 aeN (by kernel_rfl)
def Hq:Ct:=⟨[.agg [.bool,kB,kI,kU,kU],.agg [.bool,kB,kI,kU,kU]],[.sc .bool]⟩
def V7:qZ SV :=
 (.ite (.bin .geq .i64 (.ite (.bin .eql .u8 dJ ae) ae (.ite dL ai dM)) ae) (.leaf (.bool (.bin .geq .i64 (.ite dO ae (.ite dP ai dM)) ae))) av)
theorem aeP:rU (ctx E0) 3000 220 (rH Hq.a (rG 0 (q9 Hq.a))) (q9 Hq.a).length=V7:=by kernel_rfl
def V8:List Int→List Int:=rE (rY E0) Hq V7
theorem aeQ:rD Tryz.prog gG ⟨220,Hq,V8⟩:=sG (sH xc) 3000 aeP (by kernel_rfl)
def E1:List rZ:=⟨79,EC,MU⟩::⟨73,GK,VN⟩::⟨75,GL,GM⟩::⟨309,GN,GQ⟩::⟨347,GR,GU⟩::⟨225,GV,GX⟩::⟨230,GY,VP⟩::⟨255,GZ,Dj⟩::⟨321,G9,Dk⟩::⟨202,Ha,VR⟩::⟨74,ED,MV⟩::⟨72,Hd,VU⟩::⟨226,He,VW⟩::⟨228,Hf,VY⟩::⟨254,Hg,V3⟩::⟨71,Hl,Hm⟩::⟨327,Ho,V6⟩::⟨220,Hq,V8⟩::E0
theorem Ag:∀ e∈E1,rD Tryz.prog gG e:=List.forall_mem_cons.2 ⟨VL,List.forall_mem_cons.2 ⟨ael,List.forall_mem_cons.2 ⟨aen,List.forall_mem_cons.2 ⟨aep,List.forall_mem_cons.2 ⟨aer,List.forall_mem_cons.2 ⟨aet,List.forall_mem_cons.2 ⟨aev,List.forall_mem_cons.2 ⟨aex,List.forall_mem_cons.2 ⟨aez,List.forall_mem_cons.2 ⟨aeB,List.forall_mem_cons.2 ⟨VS,List.forall_mem_cons.2 ⟨aeE,List.forall_mem_cons.2 ⟨aeG,List.forall_mem_cons.2 ⟨aeI,List.forall_mem_cons.2 ⟨aeK,List.forall_mem_cons.2 ⟨aeM,List.forall_mem_cons.2 ⟨aeO,List.forall_mem_cons.2 ⟨aeQ,xc⟩⟩⟩⟩⟩⟩⟩⟩⟩⟩⟩⟩⟩⟩⟩⟩⟩⟩
theorem V9:rY E0 124=Ez:=Be (e:=⟨124,_,Ez⟩) rfl
theorem Wd:rY E0 308=EA:=Be (e:=⟨308,_,EA⟩) rfl
theorem aeR:rY E0 367=GI:=Be (e:=⟨367,_,GI⟩) rfl
open Go.RowKit
def Hr:Ct:=⟨[.sc kB],[.sc kI]⟩
def We:qZ SV :=
 (.call 71 dQ 1 3 (.leaf (.int .i64 dR)))
theorem aeS:rU (ctx E1) 3000 80 (rH Hr.a (rG 0 (q9 Hr.a))) (q9 Hr.a).length=We:=by kernel_rfl
def Wh:List Int→List Int:=rE (rY E1) Hr We
theorem aeT:rD Tryz.prog gG ⟨80,Hr,Wh⟩:=sG (sH Ag) 3000 aeS (by kernel_rfl)
def Hu:Ct:=⟨[.sc kB],[.sc kI]⟩
def Wi:qZ SV :=
 (.call 71 dQ 1 3 (.leaf (.int .i64 aj)))
theorem aeU:rU (ctx E1) 3000 81 (rH Hu.a (rG 0 (q9 Hu.a))) (q9 Hu.a).length=Wi:=by kernel_rfl
def Wj:List Int→List Int:=rE (rY E1) Hu Wi
theorem aeV:rD Tryz.prog gG ⟨81,Hu,Wj⟩:=sG (sH Ag) 3000 aeU (by kernel_rfl)
def Dl:Ct:=⟨[.sc kB],[.sc kI]⟩
def Rh:qZ SV :=
 (.call 71 dQ 1 3 (.leaf (.int .i64 (.var kI 1))))
theorem aeW:rU (ctx E1) 3000 60 (rH Dl.a (rG 0 (q9 Dl.a))) (q9 Dl.a).length=Rh:=by kernel_rfl
def Kn:List Int→List Int:=rE (rY E1) Dl Rh
theorem Wl:rD Tryz.prog gG ⟨60,Dl,Kn⟩:=sG (sH Ag) 3000 aeW (by kernel_rfl)
def Hw:Ct:=⟨[.agg [kU,kU],.sc kI],[.agg [kU,kU]]⟩
def Wm:qZ SV :=
 (.call 74 [aa,ag,dS] 3 2 (.call 72 [ay,aC,dS] 5 2 dW))
theorem aeX:rU (ctx E1) 3000 59 (rH Hw.a (rG 0 (q9 Hw.a))) (q9 Hw.a).length=Wm:=by kernel_rfl
def Wn:List Int→List Int:=rE (rY E1) Hw Wm
theorem aeY:rD Tryz.prog gG ⟨59,Hw,Wn⟩:=sG (sH Ag) 3000 aeX (by kernel_rfl)
def EE:Ct:=⟨[.agg [kU,kU],.agg [kU,kU]],[.agg [kU,kU,kU,kU]]⟩
def Ri:qZ SV :=
 (.call 347 [aa,az] 4 2 (.call 347 [ag,ay] 6 2 (.call 225 dY 8 4 (.call 347 [aa,ay] 12 2 (.call 347 [ag,az] 14 2 (.call 235 [dZ,ed,ek,eu,ae,eB,eD,ae] 16 5 (.call 235 [eF,eG,eH,eO,ae,eP,eQ,ae] 21 5 (.leaf (.agg [eU,eY,fe,(.int .u64 fq)])))))))))
theorem aeZ:rU (ctx E1) 3000 298 (rH EE.a (rG 0 (q9 EE.a))) (q9 EE.a).length=Ri:=by kernel_rfl
def MW:List Int→List Int:=rE (rY E1) EE Ri
theorem Wo:rD Tryz.prog gG ⟨298,EE,MW⟩:=sG (sH Ag) 3000 aeZ (by kernel_rfl)
def Hy:Ct:=⟨[.agg [kU,kU]],[.agg [kU,kU],.sc kI]⟩
def Wp:qZ SV :=
 (.call 225 [aa,ag,ae,ae] 2 4 (.call 254 [az,ay,aC,dU] 6 1 (.ite (.bin .eql .i64 fu ae) (.call 255 [az,ay,aC,dU] 7 2 (.leaf (.tup [(.agg [fw,fA]),dD]))) (.call 226 [az,ay,aC,dU,fB] 7 4 (.call 255 [dX,dZ,ed,ek] 11 2 (.leaf (.tup [(.agg [fC,fF]),(.int .i64 fB)])))))))
theorem ae0:rU (ctx E1) 3000 191 (rH Hy.a (rG 0 (q9 Hy.a))) (q9 Hy.a).length=Wp:=by kernel_rfl
def Wq:List Int→List Int:=rE (rY E1) Hy Wp
theorem ae1:rD Tryz.prog gG ⟨191,Hy,Wq⟩:=sG (sH Ag) 3000 ae0 (by kernel_rfl)
def Hz:Ct:=⟨[.agg [kU,kU,kU,kU],.sc kI],[.sc .bool]⟩
def Ws:qZ SV :=
 (.call 228 fG 5 4 (.call 226 [dU,aA,dX,dZ,bi] 9 4 (.leaf (.bool (.not (.and (.bin .eql .u64 ed aa) (.and (.bin .eql .u64 ek ag) (.and (.bin .eql .u64 eu az) (.and (.bin .eql .u64 eD ay) ai)))))))))
theorem ae2:rU (ctx E1) 3000 319 (rH Hz.a (rG 0 (q9 Hz.a))) (q9 Hz.a).length=Ws:=by kernel_rfl
def Wt:List Int→List Int:=rE (rY E1) Hz Ws
theorem ae3:rD Tryz.prog gG ⟨319,Hz,Wt⟩:=sG (sH Ag) 3000 ae2 (by kernel_rfl)
def HV:Ct:=⟨[.agg [kU,kU,kU,kU]],[.agg [kU,kU,kU,kU],.sc kI]⟩
def Wu:qZ SV :=
 (.call 254 fH 4 1 (.ite fI (.leaf (.tup [(.agg [aJ,aI,aG,aH]),dD])) (.call 226 [aa,ag,az,ay,fJ] 5 4 (.leaf (.tup [fK,(.int .i64 fJ)])))))
theorem ae4:rU (ctx E1) 3000 320 (rH HV.a (rG 0 (q9 HV.a))) (q9 HV.a).length=Wu:=by kernel_rfl
def Wv:List Int→List Int:=rE (rY E1) HV Wu
theorem ae5:rD Tryz.prog gG ⟨320,HV,Wv⟩:=sG (sH Ag) 3000 ae4 (by kernel_rfl)
def Dm:Ct:=⟨[.agg [kU,kU],.sc kU,.agg [kU,kU]],[.agg [kU,kU],.sc .bool]⟩
def Rj:qZ SV :=
 (.call 75 [aa,ag,aa,ag] 5 3 (.call 309 [dU,(.bin .or .u64 aA az),ay,aC] 8 3 (.ite fM fT (.ite (.not fV) fT (.leaf (.tup [(.agg [dV,(.int .u64 (.bin .or .u64 aA az))]),au]))))))
theorem ae6:rU (ctx E1) 3000 300 (rH Dm.a (rG 0 (q9 Dm.a))) (q9 Dm.a).length=Rj:=by kernel_rfl
def EF:List Int→List Int:=rE (rY E1) Dm Rj
theorem MZ:rD Tryz.prog gG ⟨300,Dm,EF⟩:=sG (sH Ag) 3000 ae6 (by kernel_rfl)
def EG:Ct:=⟨[.agg [kU,kU],.agg [kU,kU]],[.sc kI]⟩
def Rk:qZ SV :=
 (.leaf (.int .i64 (.ite (.bin .neq .i64 gm ae) gm (.ite (.bin .neq .i64 gq ae) gq ae))))
theorem ae7:rU (ctx E1) 3000 234 (rH EG.a (rG 0 (q9 EG.a))) (q9 EG.a).length=Rk:=by kernel_rfl
def EH:List Int→List Int:=rE (rY E1) EG Rk
theorem Ww:rD Tryz.prog gG ⟨234,EG,EH⟩:=sG (sH Ag) 3000 ae7 (by kernel_rfl)
def E2:List rZ:=⟨80,Hr,Wh⟩::⟨81,Hu,Wj⟩::⟨60,Dl,Kn⟩::⟨59,Hw,Wn⟩::⟨298,EE,MW⟩::⟨191,Hy,Wq⟩::⟨319,Hz,Wt⟩::⟨320,HV,Wv⟩::⟨300,Dm,EF⟩::⟨234,EG,EH⟩::E1
theorem EI:∀ e∈E2,rD Tryz.prog gG e:=List.forall_mem_cons.2 ⟨aeT,List.forall_mem_cons.2 ⟨aeV,List.forall_mem_cons.2 ⟨Wl,List.forall_mem_cons.2 ⟨aeY,List.forall_mem_cons.2 ⟨Wo,List.forall_mem_cons.2 ⟨ae1,List.forall_mem_cons.2 ⟨ae3,List.forall_mem_cons.2 ⟨ae5,List.forall_mem_cons.2 ⟨MZ,List.forall_mem_cons.2 ⟨Ww,Ag⟩⟩⟩⟩⟩⟩⟩⟩⟩⟩
theorem ae8:rY E1 71=Hm:=Be (e:=⟨71,_,Hm⟩) rfl
theorem M3:rY E1 347=GU:=Be (e:=⟨347,_,GU⟩) rfl
theorem ae9:rY E1 225=GX:=Be (e:=⟨225,_,GX⟩) rfl
theorem Wx:rY E1 235=GJ:=Be (e:=⟨235,_,GJ⟩) rfl
theorem afa:rY E1 75=GM:=Be (e:=⟨75,_,GM⟩) rfl
theorem afb:rY E1 309=GQ:=Be (e:=⟨309,_,GQ⟩) rfl
open Go.RowKit
def HY:Ct:=⟨[.sc kB,.agg [kU,kU]],[.agg [kU,kU]]⟩
def Wy:qZ SV :=
 (.call 60 dQ 3 1 (.call 59 [ag,az,dR] 4 2 (.leaf (.agg [aD,dV]))))
theorem afc:rU (ctx E2) 3000 26 (rH HY.a (rG 0 (q9 HY.a))) (q9 HY.a).length=Wy:=by kernel_rfl
def Wz:List Int→List Int:=rE (rY E2) HY Wy
theorem afd:rD Tryz.prog gG ⟨26,HY,Wz⟩:=sG (sH EI) 3000 afc (by kernel_rfl)
def HZ:Ct:=⟨[.sc kB,.sc .bool,.sc kI,.agg [kU,kU]],[.agg [kU,kU]]⟩
def WA:qZ SV :=
 (.call 71 dQ 5 3 (.ite (.bin .eql .i64 gy ae) (.leaf gz) (.ite ak gP (.ite (.bin .gtr .i64 aj (.lit 1048576)) gP (.call 59 [ae,(.conv .u64 aj),gD] 8 2 gN)))))
theorem afe:rU (ctx E2) 3000 35 (rH HZ.a (rG 0 (q9 HZ.a))) (q9 HZ.a).length=WA:=by kernel_rfl
def WB:List Int→List Int:=rE (rY E2) HZ WA
theorem aff:rD Tryz.prog gG ⟨35,HZ,WB⟩:=sG (sH EI) 3000 afe (by kernel_rfl)
def H5:Ct:=⟨[.sc kB,.sc kI],[.sc .bool]⟩
def WC:qZ SV :=
 (.ite dF (.call 80 dQ 2 1 (.leaf (.bool (.bin .gtr .i64 (.var kI 1) aj)))) av)
theorem afg:rU (ctx E2) 3000 264 (rH H5.a (rG 0 (q9 H5.a))) (q9 H5.a).length=WC:=by kernel_rfl
def WE:List Int→List Int:=rE (rY E2) H5 WC
theorem afh:rD Tryz.prog gG ⟨264,H5,WE⟩:=sG (sH EI) 3000 afg (by kernel_rfl)
def H6:Ct:=⟨[.agg [kU,kU,kU,kU],.sc kI],[.agg [kU,kU,kU,kU]]⟩
def WF:qZ SV :=
 (.call 228 fG 5 4 (.call 319 fG 9 1 (.ite gQ (.leaf (.agg [(.int .u64 (.bin .or .u64 dU ai)),aB,fw,fA])) (.leaf fK))))
theorem afi:rU (ctx E2) 3000 266 (rH H6.a (rG 0 (q9 H6.a))) (q9 H6.a).length=WF:=by kernel_rfl
def WG:List Int→List Int:=rE (rY E2) H6 WF
theorem afj:rD Tryz.prog gG ⟨266,H6,WG⟩:=sG (sH EI) 3000 afi (by kernel_rfl)
def H7:Ct:=⟨[.agg [kU,kU,kU,kU],.sc kI],[.sc kB]⟩
def WH:qZ SV :=
 (.ite gT (.leaf gU) (.ite gV (.leaf gU) (.call 319 [aa,ag,az,ay,gX] 5 1 (.leaf (.int .u8 (.ite (.ite (.bin .eql .i64 (.bin .shr .i64 gX aO) aW) (.bin .eql .u64 (.bin .and .u64 (.bin .shr .u64 az gY) ai) ai) (.bin .eql .u64 (.bin .and .u64 (.bin .shr .u64 ay gY) ai) ai)) (.ite gZ bK aW) (.ite gZ ai ae)))))))
theorem afk:rU (ctx E2) 3000 322 (rH H7.a (rG 0 (q9 H7.a))) (q9 H7.a).length=WH:=by kernel_rfl
def WI:List Int→List Int:=rE (rY E2) H7 WH
theorem afl:rD Tryz.prog gG ⟨322,H7,WI⟩:=sG (sH EI) 3000 afk (by kernel_rfl)
def H8:Ct:=⟨[.agg [.bool,kB,kI,kU,kU],.agg [.bool,kB,kI,kU,kU]],[.sc kI,.agg [kU,kU,kU,kU]]⟩
def WJ:qZ SV :=
 (.ite (.bin .neq .u8 dJ ai) (.ite (.bin .neq .u8 dJ aW) ib iq) iq)
theorem afm:rU (ctx E2) 3000 222 (rH H8.a (rG 0 (q9 H8.a))) (q9 H8.a).length=WJ:=by kernel_rfl
def WK:List Int→List Int:=rE (rY E2) H8 WJ
theorem afn:rD Tryz.prog gG ⟨222,H8,WK⟩:=sG (sH EI) 3000 afm (by kernel_rfl)
def E3:List rZ:=⟨26,HY,Wz⟩::⟨35,HZ,WB⟩::⟨264,H5,WE⟩::⟨266,H6,WG⟩::⟨322,H7,WI⟩::⟨222,H8,WK⟩::E2
theorem Dn:∀ e∈E3,rD Tryz.prog gG e:=List.forall_mem_cons.2 ⟨afd,List.forall_mem_cons.2 ⟨aff,List.forall_mem_cons.2 ⟨afh,List.forall_mem_cons.2 ⟨afj,List.forall_mem_cons.2 ⟨afl,List.forall_mem_cons.2 ⟨afn,EI⟩⟩⟩⟩⟩⟩
open Go.RowKit
def H9:Ct:=⟨[.sc kB,.sc .bool],[.agg [kU,kU]]⟩
def WL:qZ SV :=
 (.call 35 [dE,dH,ae,ae,ae] 2 2 (.leaf (.agg [aG,aH])))
theorem afo:rU (ctx E3) 3000 227 (rH H9.a (rG 0 (q9 H9.a))) (q9 H9.a).length=WL:=by kernel_rfl
def WM:List Int→List Int:=rE (rY E3) H9 WL
theorem afp:rD Tryz.prog gG ⟨227,H9,WM⟩:=sG (sH Dn) 3000 afo (by kernel_rfl)
def Ia:Ct:=⟨[.sc kB,.sc .bool],[.agg [kU,kU]]⟩
def WN:qZ SV :=
 (.call 80 dQ 2 1 (.call 35 [dE,dH,(.bin .add .i64 iw ai),ae,ae] 3 2 iy))
theorem afq:rU (ctx E3) 3000 127 (rH Ia.a (rG 0 (q9 Ia.a))) (q9 Ia.a).length=WN:=by kernel_rfl
def WO:List Int→List Int:=rE (rY E3) Ia WN
theorem afr:rD Tryz.prog gG ⟨127,Ia,WO⟩:=sG (sH Dn) 3000 afq (by kernel_rfl)
def Ib:Ct:=⟨[.sc kB,.sc .bool],[.agg [kU,kU]]⟩
def WP:qZ SV :=
 (.call 80 dQ 2 1 (.call 35 [dE,dH,iw,iA,iA] 3 2 iy))
theorem afs:rU (ctx E3) 3000 325 (rH Ib.a (rG 0 (q9 Ib.a))) (q9 Ib.a).length=WP:=by kernel_rfl
def WQ:List Int→List Int:=rE (rY E3) Ib WP
theorem aft:rD Tryz.prog gG ⟨325,Ib,WQ⟩:=sG (sH Dn) 3000 afs (by kernel_rfl)
def Ic:Ct:=⟨[.sc kB,.agg [kU,kU]],[.sc .bool,.sc kI,.agg [kU,kU]]⟩
def WR:qZ SV :=
 (.call 71 dQ 3 3 (.ite (.bin .eql .i64 dR ae) (.leaf (.tup [au,dD,gz])) (.call 26 iB 6 2 (.call 72 [aA,dX,iC] 8 2 (.call 73 [ag,az,(.bin .sub .i64 dR ai)] 10 1 (.call 59 [dZ,ed,(.bin .sub .i64 dR bi)] 11 2 (.call 59 [ag,az,iC] 13 2 (.leaf (.tup [(.bool fV),(.int .i64 (.conv .i64 eD)),(.agg [ik,gL])])))))))))
theorem afu:rU (ctx E3) 3000 34 (rH Ic.a (rG 0 (q9 Ic.a))) (q9 Ic.a).length=WR:=by kernel_rfl
def WS:List Int→List Int:=rE (rY E3) Ic WR
theorem afv:rD Tryz.prog gG ⟨34,Ic,WS⟩:=sG (sH Dn) 3000 afu (by kernel_rfl)
def Ie:Ct:=⟨[.sc kB,.sc .bool,.sc kI,.agg [kU,kU]],[.agg [kU,kU]]⟩
def WT:qZ SV :=
 (.ite (.bin .eql .i64 aj ae) (.call 81 dQ 5 1 (.call 73 [ay,aC,gH] 6 1 (.ite iD (.call 35 [dE,dH,ai,ay,aC] 7 2 iE) (.call 35 [dE,dH,aj,ay,aC] 7 2 iE)))) (.call 35 [dE,dH,aj,ay,aC] 5 2 dW))
theorem afw:rU (ctx E3) 3000 267 (rH Ie.a (rG 0 (q9 Ie.a))) (q9 Ie.a).length=WT:=by kernel_rfl
def WU:List Int→List Int:=rE (rY E3) Ie WT
theorem afx:rD Tryz.prog gG ⟨267,Ie,WU⟩:=sG (sH Dn) 3000 afw (by kernel_rfl)
def Ig:Ct:=⟨[.sc kB],[.agg [kU,kU]]⟩
def WV:qZ SV :=
 (.call 80 dQ 1 1 (.call 81 dQ 2 1 (.call 74 [ae,ai,(.bin .sub .i64 aj aW)] 3 2 (.call 35 [dE,ae,(.bin .add .i64 (.bin .mul .i64 aW (.var kI 1)) ai),ay,aC] 5 2 dW))))
theorem afy:rU (ctx E3) 3000 194 (rH Ig.a (rG 0 (q9 Ig.a))) (q9 Ig.a).length=WV:=by kernel_rfl
def WW:List Int→List Int:=rE (rY E3) Ig WV
theorem afz:rD Tryz.prog gG ⟨194,Ig,WW⟩:=sG (sH Dn) 3000 afy (by kernel_rfl)
def Ih:Ct:=⟨[.agg [kU,kU,kU,kU],.sc kI,.sc kB,.sc .bool],[.agg [kU,kU],.sc .bool]⟩
def WX:qZ SV :=
 (.ite gT iF (.ite gV iF (.ite (.not (.bin .leq .u8 (.var kB 5) cz)) iF (.call 228 [aa,ag,az,ay,fJ] 7 4 (.call 321 [dX,dZ,ed,ek] 11 2 (.call 322 fG 13 1 (.call 323 [(.var kB 5),iD,(.bin .eql .u64 (.bin .and .u64 eD ai) ai),iG] 14 1 (.ite iH (.call 75 [eu,eD,ae,ai] 15 3 (.leaf (.tup [(.agg [gM,iI]),iJ]))) (.leaf (.tup [(.agg [fC,fF]),iJ]))))))))))
theorem afA:rU (ctx E3) 3000 262 (rH Ih.a (rG 0 (q9 Ih.a))) (q9 Ih.a).length=WX:=by kernel_rfl
def WY:List Int→List Int:=rE (rY E3) Ih WX
theorem afB:rD Tryz.prog gG ⟨262,Ih,WY⟩:=sG (sH Dn) 3000 afA (by kernel_rfl)
def E4:List rZ:=⟨227,H9,WM⟩::⟨127,Ia,WO⟩::⟨325,Ib,WQ⟩::⟨34,Ic,WS⟩::⟨267,Ie,WU⟩::⟨194,Ig,WW⟩::⟨262,Ih,WY⟩::E3
theorem Ko:∀ e∈E4,rD Tryz.prog gG e:=List.forall_mem_cons.2 ⟨afp,List.forall_mem_cons.2 ⟨afr,List.forall_mem_cons.2 ⟨aft,List.forall_mem_cons.2 ⟨afv,List.forall_mem_cons.2 ⟨afx,List.forall_mem_cons.2 ⟨afz,List.forall_mem_cons.2 ⟨afB,Dn⟩⟩⟩⟩⟩⟩⟩
open Go.RowKit
def Ii:Ct:=⟨[.sc kB,.agg [kU,kU]],[.sc kB,.sc .bool]⟩
def WZ:qZ SV :=
 (.ite dG (.leaf (.tup [gU,au])) (.call 34 iB 3 4 (.call 79 [dU,aA] 7 1 (.call 80 dQ 8 1 (.ite fI (.ite fM (.leaf (.tup [gU,iL])) (.leaf (.tup [iM,iL]))) (.ite (.bin .lss .i64 bi (.bin .add .i64 (.bin .mul .i64 aW (.var kI 8)) ai)) (.leaf (.tup [iN,iL])) (.ite fM (.leaf (.tup [iO,iL])) (.call 81 dQ 9 1 (.call 73 [dU,aA,(.bin .sub .i64 iP aW)] 10 1 (.ite fV (.leaf (.tup [(.int .u8 cz),iL])) (.leaf (.tup [(.int .u8 (.lit 5)),iL]))))))))))))
theorem afC:rU (ctx E4) 3000 37 (rH Ii.a (rG 0 (q9 Ii.a))) (q9 Ii.a).length=WZ:=by kernel_rfl
def W9:List Int→List Int:=rE (rY E4) Ii WZ
theorem afD:rD Tryz.prog gG ⟨37,Ii,W9⟩:=sG (sH Ko) 3000 afC (by kernel_rfl)
def Ij:Ct:=⟨[.sc kB,.sc kB,.sc .bool],[.agg [kU,kU,kB]]⟩
def Xa:qZ SV :=
 (.ite dG iQ (.ite iR iQ (.call 327 [dJ,dI] 3 1 (.ite iK (.call 127 [dE,dI] 4 2 iT) (.call 325 [dE,dI] 4 2 iT)))))
theorem afE:rU (ctx E4) 3000 265 (rH Ij.a (rG 0 (q9 Ij.a))) (q9 Ij.a).length=Xa:=by kernel_rfl
def Xb:List Int→List Int:=rE (rY E4) Ij Xa
theorem afF:rD Tryz.prog gG ⟨265,Ij,Xb⟩:=sG (sH Ko) 3000 afE (by kernel_rfl)
def Ik:Ct:=⟨[.sc kB,.agg [kU,kU]],[.agg [kU,kU]]⟩
def Xc:qZ SV :=
 (.call 194 dQ 3 2 (.call 34 iU 5 4 (.leaf (.agg [(.int .u64 (.bin .or .u64 ag dX)),(.int .u64 (.bin .or .u64 az dZ))]))))
theorem afG:rU (ctx E4) 3000 313 (rH Ik.a (rG 0 (q9 Ik.a))) (q9 Ik.a).length=Xc:=by kernel_rfl
def Xd:List Int→List Int:=rE (rY E4) Ik Xc
theorem afH:rD Tryz.prog gG ⟨313,Ik,Xd⟩:=sG (sH Ko) 3000 afG (by kernel_rfl)
def Il:Ct:=⟨[.sc kB,.agg [kU,kU]],[.agg [kU,kU]]⟩
def Xe:qZ SV :=
 (.call 34 iB 3 4 (.call 35 [dE,(.not iK),bi,dU,aA] 7 2 iE))
theorem afI:rU (ctx E4) 3000 76 (rH Il.a (rG 0 (q9 Il.a))) (q9 Il.a).length=Xe:=by kernel_rfl
def Xf:List Int→List Int:=rE (rY E4) Il Xe
theorem afJ:rD Tryz.prog gG ⟨76,Il,Xf⟩:=sG (sH Ko) 3000 afI (by kernel_rfl)
def E5:List rZ:=⟨37,Ii,W9⟩::⟨265,Ij,Xb⟩::⟨313,Ik,Xd⟩::⟨76,Il,Xf⟩::E4
theorem Im:∀ e∈E5,rD Tryz.prog gG e:=List.forall_mem_cons.2 ⟨afD,List.forall_mem_cons.2 ⟨afF,List.forall_mem_cons.2 ⟨afH,List.forall_mem_cons.2 ⟨afJ,Ko⟩⟩⟩⟩
open Go.RowKit
def Io:Ct:=⟨[.sc kB,.agg [kU,kU]],[.sc .bool]⟩
def Xg:qZ SV :=
 (.call 37 iB 3 2 (.leaf (.bool (.bin .geq .u8 iV cz))))
theorem afK:rU (ctx E5) 3000 31 (rH Io.a (rG 0 (q9 Io.a))) (q9 Io.a).length=Xg:=by kernel_rfl
def Xh:List Int→List Int:=rE (rY E5) Io Xg
theorem afL:rD Tryz.prog gG ⟨31,Io,Xh⟩:=sG (sH Im) 3000 afK (by kernel_rfl)
def Ip:Ct:=⟨[.sc kB,.agg [kU,kU]],[.sc .bool]⟩
def Xi:qZ SV :=
 (.call 37 iB 3 2 (.ite dF (.leaf (.bool (.bin .lss .u8 iV bK))) av))
theorem afM:rU (ctx E5) 3000 57 (rH Ip.a (rG 0 (q9 Ip.a))) (q9 Ip.a).length=Xi:=by kernel_rfl
def Xj:List Int→List Int:=rE (rY E5) Ip Xi
theorem afN:rD Tryz.prog gG ⟨57,Ip,Xj⟩:=sG (sH Im) 3000 afM (by kernel_rfl)
def Iq:Ct:=⟨[.sc kB,.agg [kU,kU]],[.agg [.bool,kB,kI,kU,kU]]⟩
def Xk:qZ SV :=
 (.call 37 iB 3 2 (.call 81 dQ 5 1 (.call 80 dQ 6 1 (.call 34 iB 7 4 (.ite (.bin .eql .u8 iV aW) (.call 74 [ed,ek,(.bin .sub .i64 aL gy)] 11 2 (.call 75 [eu,eD,iW,ae] 13 3 (.leaf (.agg [(.bool iX),iY,(.int .i64 (.bin .sub .i64 (.var kI 8) fu)),ik,gL])))) (.ite (.bin .eql .u8 iV ai) (.call 191 [ed,ek] 11 3 (.leaf (.agg [(.bool iX),iY,(.int .i64 (.bin .sub .i64 (.bin .sub .i64 (.bin .add .i64 (.bin .sub .i64 ai fu) aL) gy) (.var kI 13))),fC,fF]))) (.leaf (.agg [(.bool iX),iY,dD,aK,aK]))))))))
theorem afO:rU (ctx E5) 3000 125 (rH Iq.a (rG 0 (q9 Iq.a))) (q9 Iq.a).length=Xk:=by kernel_rfl
def Xl:List Int→List Int:=rE (rY E5) Iq Xk
theorem afP:rD Tryz.prog gG ⟨125,Iq,Xl⟩:=sG (sH Im) 3000 afO (by kernel_rfl)
def Ir:Ct:=⟨[.sc kB,.agg [kB,.bool],.sc .bool,.sc kI,.agg [kU,kU,kU,kU]],[.agg [kU,kU,kB]]⟩
def Xm:qZ SV :=
 (.ite dG iQ (.ite iR iQ (.call 202 [dU,aA,dX,dZ] 9 1 (.ite gQ (.call 227 [dE,iK] 10 2 (.leaf (.agg [ig,fC,gU]))) (.call 320 [dU,aA,dX,dZ] 10 5 (.call 81 dQ 15 1 (.call 80 dQ 16 1 (.call 262 [ek,eu,eD,eB,iZ,dJ,iK] 17 3 (.call 73 [eG,eH,iZ] 20 1 (.ite ja (.call 264 [dE,jf] 21 1 (.ite jg jh (.ite jk (.ite (.not dI) jD (.call 266 jl 22 4 (.call 262 jo 26 3 (.call 267 [dE,iK,ae,jq,jr] 29 2 (.ite (.var .bool 28) (.ite (.bin .lss .i64 jf ji) jB (.leaf (.agg [jw,jA,jE]))) jC))))) (.call 267 [dE,iK,(.bin .add .i64 (.bin .sub .i64 jf ji) ai),eG,eH] 22 2 jH)))) (.call 264 [dE,je] 21 1 (.ite jg jh (.ite jk (.ite (.not dI) jD jD) (.call 267 [dE,iK,(.bin .add .i64 (.bin .sub .i64 je ji) ai),eG,eH] 22 2 jH))))))))))))))
theorem afQ:rU (ctx E5) 3000 204 (rH Ir.a (rG 0 (q9 Ir.a))) (q9 Ir.a).length=Xm:=by kernel_rfl
def Xn:List Int→List Int:=rE (rY E5) Ir Xm
theorem afR:rD Tryz.prog gG ⟨204,Ir,Xn⟩:=sG (sH Im) 3000 afQ (by kernel_rfl)
def Iu:Ct:=⟨[.sc kB,.agg [kU,kU]],[.sc .bool]⟩
def Xo:qZ SV :=
 (.call 37 iB 3 2 (.leaf (.bool (.bin .eql .u8 iV (.lit 5)))))
theorem afS:rU (ctx E5) 3000 196 (rH Iu.a (rG 0 (q9 Iu.a))) (q9 Iu.a).length=Xo:=by kernel_rfl
def Xp:List Int→List Int:=rE (rY E5) Iu Xo
theorem afT:rD Tryz.prog gG ⟨196,Iu,Xp⟩:=sG (sH Im) 3000 afS (by kernel_rfl)
def E6:List rZ:=⟨31,Io,Xh⟩::⟨57,Ip,Xj⟩::⟨125,Iq,Xl⟩::⟨204,Ir,Xn⟩::⟨196,Iu,Xp⟩::E5
theorem Xq:∀ e∈E6,rD Tryz.prog gG e:=List.forall_mem_cons.2 ⟨afL,List.forall_mem_cons.2 ⟨afN,List.forall_mem_cons.2 ⟨afP,List.forall_mem_cons.2 ⟨afR,List.forall_mem_cons.2 ⟨afT,Im⟩⟩⟩⟩⟩
open Go.RowKit
def Iw:Ct:=⟨[.sc kB,.agg [kU,kU]],[.agg [kU,kU]]⟩
def Xr:qZ SV :=
 (.call 26 iB 3 2 (.call 31 iU 5 1 (.ite gZ (.call 81 dQ 6 1 (.call 74 [ae,ai,(.bin .sub .i64 fu aW)] 7 2 (.leaf (.agg [(.int .u64 (.bin .or .u64 ay dX)),(.int .u64 (.bin .or .u64 aC dZ))])))) iy)))
theorem afU:rU (ctx E6) 3000 195 (rH Iw.a (rG 0 (q9 Iw.a))) (q9 Iw.a).length=Xr:=by kernel_rfl
def Xt:List Int→List Int:=rE (rY E6) Iw Xr
theorem afV:rD Tryz.prog gG ⟨195,Iw,Xt⟩:=sG (sH Xq) 3000 afU (by kernel_rfl)
def E7:List rZ:=⟨195,Iw,Xt⟩::E6
theorem M4:∀ e∈E7,rD Tryz.prog gG e:=List.forall_mem_cons.2 ⟨afV,Xq⟩
open Go.RowKit
def Iy:Ct:=⟨[.sc kB,.agg [kB,.bool],.agg [kU,kU],.agg [kU,kU]],[.agg [kU,kU,kB]]⟩
def Xu:qZ SV :=
 (.ite dG iQ (.ite iR iQ (.call 125 iU 7 5 (.call 125 jI 12 5 (.call 220 jL 17 1 (.call 31 iU 18 1 (.ite (.var .bool 18) (.call 194 dQ 19 2 (.call 195 iU 21 2 (.ite jM jN (.call 196 iU 23 1 (.ite (.var .bool 23) jN (.call 196 jI 24 1 (.ite jO jN jP))))))) (.call 31 jI 19 1 (.ite jF (.call 194 dQ 20 2 (.call 195 jI 22 2 (.ite jM jQ (.call 196 iU 24 1 (.ite jO jQ (.call 196 jI 25 1 (.ite jR jQ jG))))))) (.ite (.not jM) (.ite (.bin .geq .i64 (.ite jS ae (.ite jT ai dM)) ae) (.call 127 [dE,jU] 20 2 jV) (.call 222 jL 20 5 (.call 204 [dE,dJ,dI,jU,(.var kI 20),eT,eX,eZ,fq] 25 3 (.leaf (.agg [(.int .u64 jm),jW,(.int .u8 (.var kB 27))]))))) (.call 194 dQ 20 2 (.leaf (.agg [gK,eU,iM])))))))))))))
theorem afW:rU (ctx E7) 3000 162 (rH Iy.a (rG 0 (q9 Iy.a))) (q9 Iy.a).length=Xu:=by kernel_rfl
def Xv:List Int→List Int:=rE (rY E7) Iy Xu
theorem afX:rD Tryz.prog gG ⟨162,Iy,Xv⟩:=sG (sH M4) 3000 afW (by kernel_rfl)
def Iz:Ct:=⟨[.sc kB,.sc kB,.agg [kU,kU]],[.agg [kU,kU,kB],.sc .bool]⟩
def Xw:qZ SV :=
 (.ite jX jY (.call 31 jZ 4 1 (.ite (.not iX) jY (.call 34 jZ 5 4 (.call 81 dQ 9 1 (.call 74 [dX,dZ,(.bin .sub .i64 (.lit 129) iP)] 10 2 (.call 81 [dJ] 12 1 (.call 72 [ek,eu,(.bin .sub .i64 (.lit 129) j4)] 13 2 (.call 80 [dJ] 15 1 (.call 313 [dJ,eB,eQ] 16 2 (.call 35 [dJ,gZ,(.bin .add .i64 (.bin .mul .i64 aW iZ) ai),eF,eG] 18 2 (.call 195 [dJ,eH,eO] 20 2 (.call 196 jZ 22 1 (.ite (.var .bool 22) (.leaf (.tup [(.agg [gK,eU,iM]),fQ])) (.leaf (.tup [(.agg [gK,eU,gU]),fQ]))))))))))))))))
theorem afY:rU (ctx E7) 3000 243 (rH Iz.a (rG 0 (q9 Iz.a))) (q9 Iz.a).length=Xw:=by kernel_rfl
def Xx:List Int→List Int:=rE (rY E7) Iz Xw
theorem afZ:rD Tryz.prog gG ⟨243,Iz,Xx⟩:=sG (sH M4) 3000 afY (by kernel_rfl)
def E8:List rZ:=⟨162,Iy,Xv⟩::⟨243,Iz,Xx⟩::E7
theorem Xy:∀ e∈E8,rD Tryz.prog gG e:=List.forall_mem_cons.2 ⟨afX,List.forall_mem_cons.2 ⟨afZ,M4⟩⟩
open Go.RowKit
def IA:Ct:=⟨[.sc kB,.sc kB,.agg [kB,.bool],.agg [kU,kU]],[.agg [kU,kU,kB]]⟩
def Xz:qZ SV :=
 (.ite (.not (.ite dG ae (.ite jX ae ai))) iQ (.ite j6 iQ (.call 243 [dE,dJ,aC,dU] 6 4 (.ite gQ (.leaf (.agg [aB,fw,(.int .u8 jJ)])) (.call 125 kg 10 5 (.ite ku (.call 127 [dJ,fV] 15 2 kv) (.call 225 [eB,eQ,ae,ae] 15 4 (.call 204 [dJ,j5,iK,fV,j4,eP,eF,eG,eH] 19 3 (.leaf (.agg [gI,gK,(.int .u8 (.var kB 21))]))))))))))
theorem af0:rU (ctx E8) 3000 176 (rH IA.a (rG 0 (q9 IA.a))) (q9 IA.a).length=Xz:=by kernel_rfl
def XA:List Int→List Int:=rE (rY E8) IA Xz
theorem af1:rD Tryz.prog gG ⟨176,IA,XA⟩:=sG (sH Xy) 3000 af0 (by kernel_rfl)
def E9:List rZ:=⟨176,IA,XA⟩::E8
theorem af2:∀ e∈E9,rD Tryz.prog gG e:=List.forall_mem_cons.2 ⟨af1,Xy⟩
open Go.RowKit
def XB:List rZ:=E9
theorem af3:∀ e∈XB,rD Tryz.prog gG e:=af2
end Go.Proofs.YtbembkamcdlhbaaGreatDoor
