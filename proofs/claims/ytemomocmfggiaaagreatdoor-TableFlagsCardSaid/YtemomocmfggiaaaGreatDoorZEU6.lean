import Derived.Test.YtemomocmfggiaaaGreatDoorZDU6
set_option linter.unusedSimpArgs false
set_option linter.unusedVariables false
set_option maxRecDepth 100000
namespace Go.Proofs.YtemomocmfggiaaaGreatDoor
open Go.RowKit
def KX:Ct:=⟨[.agg [kU,kU]],[.sc .bool]⟩
abbrev aa:X:=.var kU 0
abbrev ae:X:=.lit 0
abbrev af:X:=.bin .eql .u64 aa ae
abbrev ag:X:=.var kU 1
abbrev ah:X:=.bin .eql .u64 ag ae
abbrev ai:X:=.lit 1
abbrev aj:X:=.var kI 2
abbrev ak:X:=.bin .lss .i64 aj ae
abbrev au:SV:=.bool ae
abbrev av:vo SV:=.leaf au
abbrev ax:X:=.lit 63
abbrev ay:X:=.var kU 3
abbrev az:X:=.var kU 2
abbrev aA:X:=.var kU 6
abbrev aB:SV:=.int .u64 aA
abbrev aC:X:=.var kU 4
abbrev aD:SV:=.int .u64 aC
abbrev aF:vo SV:=.leaf (.tup [(.agg [aB,aD]),(.bool (.bin .neq .u64 (.var .bit 7) ae))])
abbrev aG:SV:=.int .u64 az
abbrev aH:SV:=.int .u64 ay
abbrev aJ:SV:=.int .u64 ag
abbrev aK:SV:=.int .u64 aa
abbrev aL:SV:=.int .u64 ae
abbrev aM:X:=.bin .eql .u64 az ae
abbrev aO:X:=.lit 128
abbrev aP:X:=.min (.max aj ae) aO
abbrev aQ:X:=.max (.lit (-128)) aP
abbrev aR:X:=.lit 6
abbrev aS:X:=.bin .shr .i64 aQ aR
abbrev aT:X:=.bin .sub .i64 ai aS
abbrev aU:X:=.conv .u64 (.bin .and .i64 aQ ax)
abbrev aV:X:=.bin .sub .u64 ax aU
abbrev aW:X:=.max (.lit (-128)) (.min (.bin .sub .i64 ae aP) aO)
abbrev aX:X:=.bin .shr .i64 aW aR
abbrev aY:X:=.bin .sub .i64 ai aX
abbrev aZ:X:=.lit 2
abbrev bf:X:=.conv .u64 (.bin .and .i64 aW ax)
abbrev bg:X:=.bin .sub .i64 aY ai
abbrev bi:X:=.bin .sub .u64 ax bf
abbrev bn:X:=.bin .sub .i64 ae aX
abbrev bq:X:=.bin .sub .i64 bn ai
abbrev bu:X:=.var kI 4
abbrev bv:X:=.lit 256
abbrev bz:X:=.min (.max bu ae) bv
abbrev bE:X:=.max (.lit (-256)) bz
abbrev bG:X:=.bin .shr .i64 bE aR
abbrev bH:X:=.conv .u64 (.bin .and .i64 bE ax)
abbrev bI:X:=.bin .sub .u64 ax bH
abbrev bJ:X:=.bin .sub .i64 ai bG
abbrev bK:X:=.bin .sub .i64 aZ bG
abbrev bL:X:=.bin .sub .i64 bK ai
abbrev bM:X:=.lit 3
abbrev bP:X:=.bin .sub .i64 bM bG
abbrev bT:X:=.bin .sub .i64 bP ai
abbrev bU:X:=.max (.lit (-256)) (.min (.bin .sub .i64 ae bz) bv)
abbrev bV:X:=.bin .shr .i64 bU aR
abbrev bW:X:=.bin .sub .i64 ae bV
abbrev cu:X:=.lit 4
abbrev cz:X:=.conv .u64 (.bin .and .i64 bU ax)
abbrev cO:X:=.bin .sub .i64 bW ai
abbrev df:X:=.bin .sub .u64 ax cz
abbrev dh:X:=.bin .sub .i64 ai bV
abbrev di:X:=.bin .sub .i64 dh ai
abbrev dw:X:=.bin .sub .i64 aZ bV
abbrev dx:X:=.bin .sub .i64 dw ai
abbrev dz:X:=.bin .sub .i64 bM bV
abbrev dA:X:=.bin .sub .i64 dz ai
abbrev dC:SV:=.int .i64 ae
abbrev dD:X:=.var kB 0
abbrev dE:X:=.bin .lss .i64 dD cu
abbrev dF:X:=.not dE
abbrev dG:X:=.var .bool 1
abbrev dH:X:=.var .bool 2
abbrev dI:X:=.var kB 1
abbrev dJ:X:=.var kB 6
abbrev dK:X:=.bin .eql .u8 dJ ae
abbrev dL:X:=.lit (-1)
abbrev dM:X:=.bin .eql .u8 dI bM
abbrev dO:X:=.bin .eql .u8 dJ bM
abbrev dP:List X:=[dD]
abbrev dQ:X:=.var kI 3
abbrev dR:X:=.var kI 1
abbrev dS:X:=.bin .sub .i64 aO aj
abbrev dU:X:=.var kU 5
abbrev dV:SV:=.int .u64 dU
abbrev dW:vo SV:=.leaf (.agg [dV,aB])
abbrev dX:X:=.var kU 7
abbrev dY:List X:=[aC,dU,aA,dX]
abbrev dZ:X:=.var kU 8
abbrev ed:X:=.var kU 9
abbrev eD:X:=.var kU 10
abbrev eF:X:=.var kU 11
abbrev eG:X:=.var kU 13
abbrev eH:X:=.var kU 12
abbrev eO:X:=.var kU 16
abbrev eQ:X:=.var kU 17
abbrev eT:X:=.var kU 18
abbrev eU:X:=.var kU 19
abbrev eX:X:=.var kU 15
abbrev eY:X:=.var kU 14
abbrev eZ:X:=.var kU 21
abbrev fe:SV:=.int .u64 eZ
abbrev fo:X:=.var kU 22
abbrev fq:SV:=.int .u64 fo
abbrev fu:X:=.var kU 23
abbrev fw:SV:=.int .u64 fu
abbrev fC:X:=.var kU 24
abbrev fD:X:=.var kI 6
abbrev fF:SV:=.int .u64 dX
abbrev fG:SV:=.int .u64 dZ
abbrev fH:X:=.bin .sub .i64 bv fD
abbrev fI:SV:=.int .u64 eF
abbrev fJ:SV:=.int .u64 eH
abbrev fK:List X:=[aa,ag,az,ay,bu]
abbrev fM:List X:=[aa,ag,az,ay]
abbrev fO:X:=.bin .eql .i64 bu ae
abbrev fQ:X:=.bin .sub .i64 bv bu
abbrev fT:SV:=.agg [dV,aB,fF,fG]
abbrev fV:X:=.var .bool 7
abbrev fZ:SV:=.int .u64 ed
abbrev gm:SV:=.bool ai
abbrev gp:vo SV:=.leaf (.tup [(.agg [fG,fZ]),gm])
abbrev gq:X:=.var .bool 10
abbrev gy:X:=.bin .neq .u64 az az
abbrev gz:X:=.ite (.bin .neq .u64 aa aa) (.ite gy ae dL) (.ite gy ai (.ite (.bin .lss .u64 aa az) dL (.ite (.bin .gtr .u64 aa az) ai ae)))
abbrev gB:X:=.bin .neq .u64 ay ay
abbrev gD:X:=.ite (.bin .neq .u64 ag ag) (.ite gB ae dL) (.ite gB ai (.ite (.bin .lss .u64 ag ay) dL (.ite (.bin .gtr .u64 ag ay) ai ae)))
abbrev gF:X:=.var kI 5
abbrev gH:X:=.bin .eql .i64 gF ae
abbrev gI:SV:=.agg [aL,aL]
abbrev gJ:X:=.bin .sub .i64 gF fD
abbrev gK:X:=.bin .sub .i64 fD ai
abbrev gL:X:=.bin .sub .i64 gF ai
abbrev gM:SV:=.int .u64 eU
abbrev gN:X:=.var kU 20
abbrev gP:SV:=.int .u64 gN
abbrev gQ:SV:=.int .u64 eY
abbrev gT:SV:=.int .u64 eX
abbrev gU:vo SV:=.call 111 [dZ,ed,gK] 10 2 (.call 54 [ay,aC,gK] 12 2 (.call 192 [eD,eF,eH,eG] 14 3 (.ite dG (.call 111 [ae,ai,gL] 17 2 (.call 192 [eY,eX,eQ,eT] 19 3 (.leaf (.agg [gM,gP])))) (.leaf (.agg [gQ,gT])))))
abbrev gV:vo SV:=.call 54 [ae,ae,gJ] 8 2 gU
abbrev gW:X:=.var .bool 9
abbrev gX:X:=.bin .lss .i64 bu ae
abbrev gY:SV:=.int .u8 ae
abbrev gZ:X:=.bin .gtr .i64 bu (.lit 127)
abbrev ib:X:=.lit 255
abbrev ic:X:=.bin .sub .i64 ib bu
abbrev ig:X:=.bin .and .i64 ic ax
abbrev ik:X:=.var .bool 5
abbrev il:vo SV:=.leaf (.tup [dC,(.agg [aL,aL,aL,aL])])
abbrev iq:X:=.var kI 7
abbrev iw:SV:=.int .u64 eD
abbrev iy:SV:=.int .u64 eG
abbrev iC:vo SV:=.call 207 [ay,aC,dZ,ed] 10 4 (.leaf (.tup [(.int .i64 (.bin .add .i64 (.bin .add .i64 aj iq) ai)),(.agg [iw,fI,fJ,iy])]))
abbrev iD:vo SV:=.ite (.bin .neq .u8 dJ ai) (.ite (.bin .neq .u8 dJ aZ) il iC) iC
abbrev iE:X:=.bin .mul .i64 aZ aj
abbrev iF:vo SV:=.leaf (.agg [aH,aD])
abbrev iG:X:=.lit 18446744073709551615
abbrev iH:List X:=[dD,ag,az]
abbrev iI:X:=.bin .sub .i64 bu ai
abbrev iJ:X:=.var .bool 6
abbrev iK:vo SV:=.leaf (.agg [fF,fG])
abbrev iL:vo SV:=.leaf (.tup [gI,au])
abbrev iM:X:=.var kB 13
abbrev iN:X:=.var .bool 14
abbrev iO:SV:=.int .u64 eO
abbrev iQ:SV:=.bool (.bin .neq .u8 iM ae)
abbrev iR:X:=.var .bool 3
abbrev iT:SV:=.bool iR
abbrev iU:SV:=.int .u8 ai
abbrev iV:SV:=.int .u8 aZ
abbrev iW:SV:=.int .u8 bM
abbrev iX:X:=.var kI 9
abbrev iY:vo SV:=.leaf (.agg [aL,aL,gY])
abbrev iZ:X:=.not (.bin .leq .u8 dI cu)
abbrev ja:vo SV:=.leaf (.agg [aD,dV,(.int .u8 (.lit 20))])
abbrev jb:List X:=[dD,ay,aC]
abbrev jc:X:=.var kB 3
abbrev jd:X:=.lit 9223372036854775808
abbrev je:X:=.var .bool 4
abbrev jf:SV:=.int .u8 jc
abbrev jg:X:=.var kI 15
abbrev jh:X:=.var .bool 20
abbrev ji:X:=.lit (-1099511627776)
abbrev jk:X:=.lit 1099511627776
abbrev jm:X:=.var kI 14
abbrev jo:X:=.bin .sub .i64 (.max ji (.min bu jk)) jm
abbrev jq:X:=.bin .add .i64 jo ai
abbrev jr:X:=.var .bool 21
abbrev jv:vo SV:=.call 213 [dD,dI,iR] 22 3 (.leaf (.agg [fq,fw,(.int .u8 (.var kB 24))]))
abbrev jw:X:=.bin .sub .i64 ai (.var kI 16)
abbrev jA:X:=.bin .lss .i64 jo jw
abbrev jB:List X:=[eD,eF,eH,eG,(.bin .sub .i64 jw jo)]
abbrev jC:X:=.var kU 25
abbrev jD:List X:=[fo,fu,fC,jC,jg,dI,iR]
abbrev jE:X:=.var kU 26
abbrev jF:X:=.var kU 27
abbrev jG:X:=.var kU 29
abbrev jH:SV:=.int .u64 jG
abbrev jI:X:=.var kU 30
abbrev jJ:SV:=.int .u64 jI
abbrev jK:vo SV:=.leaf (.agg [jH,jJ,(.int .u8 (.lit 24))])
abbrev jL:vo SV:=.leaf (.agg [jH,jJ,gY])
abbrev jM:vo SV:=.call 214 jB 22 4 (.call 210 jD 26 3 (.call 215 [dD,iR,ae,jE,jF] 29 2 (.ite (.var .bool 28) jK jL)))
abbrev jN:SV:=.int .u8 (.lit 16)
abbrev jO:X:=.var .bool 19
abbrev jP:vo SV:=.leaf (.agg [fq,fw,gY])
abbrev jQ:vo SV:=.ite jO (.leaf (.agg [fq,fw,jN])) jP
abbrev jR:List X:=[dD,dU,aA]
abbrev jS:X:=.var kB 8
abbrev jT:X:=.var .bool 12
abbrev jU:List X:=[fV,jS,iX,eD,eF,jT,iM,jm,eX,eO]
abbrev jV:X:=.var .bool 18
abbrev jW:X:=.var .bool 17
abbrev jX:vo SV:=.leaf (.agg [fe,fq,iU])
abbrev jY:X:=.var .bool 23
abbrev jZ:X:=.var .bool 24
abbrev j4:vo SV:=.leaf (.agg [fe,fq,gY])
abbrev j5:vo SV:=.leaf (.agg [fq,fw,iU])
abbrev j6:X:=.var .bool 25
abbrev kg:X:=.not jW
abbrev ku:X:=.bin .eql .u8 jS bM
abbrev kv:X:=.bin .eql .u8 iM bM
abbrev kw:X:=.not (.beq fV jT)
abbrev ky:vo SV:=.leaf (.agg [gP,fe,gY])
abbrev kz:SV:=.int .u64 jE
abbrev kC:X:=.not (.bin .lss .i64 dI cu)
abbrev kD:vo SV:=.leaf (.tup [(.agg [aL,aL,gY]),au])
abbrev kG:List X:=[dD,az,ay]
abbrev kH:X:=.var kI 12
abbrev kJ:X:=.var .bool 22
abbrev kK:X:=.var kB 2
abbrev kL:X:=.not (.bin .leq .u8 kK cu)
abbrev kM:List X:=[dD,aC,dU]
abbrev kP:X:=.bin .eql .u8 (.var kB 11) bM
abbrev kQ:vo SV:=.leaf (.agg [gT,iO,gY])
abbrev kR:vo SV:=.leaf (.tup [(.agg [fF,fG,iU]),gm])
abbrev kS:vo SV:=.leaf (.tup [(.agg [fZ,iw,iU]),gm])
abbrev kT:X:=.var .bool 11
abbrev kV:vo SV:=.leaf (.tup [(.agg [iw,fI,iU]),gm])
abbrev kW:X:=.var .bool 13
abbrev kX:X:=.var .bool 8
abbrev kY:vo SV:=.leaf (.tup [(.agg [fI,fJ,iU]),gm])
abbrev kZ:List X:=[dD,aA,dX]
abbrev lg:X:=.var .bool 15
abbrev lh:vo SV:=.leaf (.tup [(.agg [fJ,iy,iU]),gm])
abbrev ll:X:=.var .bool 16
abbrev lq:vo SV:=.leaf (.tup [(.agg [iy,gQ,iU]),gm])
abbrev lu:List X:=[ag,az,ay,aC]
abbrev lv:List X:=[aA,dX,dZ,ed]
abbrev lw:X:=.max ji (.min gF jk)
abbrev lC:X:=.max ji (.min (.var kI 0) jk)
abbrev lD:vo SV:=.leaf (.int .i64 (.max lC lw))
abbrev lF:List X:=[ag,az,ay,aC,(.bin .sub .i64 (.max lC lw) lC)]
abbrev lG:List X:=[aA,dX,dZ,ed,(.bin .sub .i64 (.max lC lw) lw)]
abbrev lH:vo SV:=.leaf (.int .i64 ai)
abbrev lI:vo SV:=.leaf (.int .i64 (.var kI 20))
abbrev lJ:List X:=[(.var kI 0),ag,az,ay,aC,gF,aA,dX,dZ,ed]
abbrev lK:X:=.bin .add .i64 (.var kI 10) ai
abbrev lL:X:=.bin .lss .i64 (.var kI 10) ae
abbrev lM:X:=.var kI 11
abbrev lN:X:=.bin .add .i64 lM ae
abbrev lQ:List X:=[aA,dX,dZ,ed,(.bin .sub .i64 lN lw)]
abbrev lS:List X:=[ag,az,ay,aC,(.bin .sub .i64 lN lC)]
abbrev lT:vo SV:=.call 161 [eH,eG,eY,eX,eO,eQ,eT,eU] 20 5 (.leaf (.tup [(.agg [(.int .i64 lN),gP,fe,fq,fw]),(.bool lL)]))
abbrev lU:vo SV:=.leaf (.agg [(.int .u64 eQ),(.int .u64 eT),(.int .u8 (.var kB 19))])
abbrev lV:vo SV:=.ite jh lU (.call 141 [dD,fV] 21 2 j4)
abbrev lW:List X:=[dD,ae,ay,aC,dU,aA]
abbrev lZ:List X:=[eD,eF,ae,ae]
abbrev l7:List X:=[eX,eO,ae,ae]
abbrev l8:X:=.var kU 28
abbrev l9:List X:=[iX,eZ,fo,fu,fC,jm,jC,jE,jF,l8]
abbrev ma:X:=.var kU 31
abbrev mf:X:=.var kU 32
abbrev mg:X:=.var kU 33
abbrev mh:X:=.var kU 36
abbrev mi:SV:=.int .u64 mh
abbrev mo:SV:=.int .u64 (.var kU 37)
abbrev mq:vo SV:=.leaf (.agg [mi,mo,(.int .u8 (.var kB 38))])
abbrev mr:X:=.var kU 35
abbrev mD:SV:=.int .u64 mr
abbrev mF:vo SV:=.call 147 [dD,dI,dH,fV,(.var kI 29),jI,ma,mf,mg] 35 3 (.leaf (.agg [mD,mi,(.int .u8 (.var kB 37))]))
abbrev mG:List X:=[iN,(.var kB 15),(.var kI 16),eQ,eT,jO,(.var kB 20),(.var kI 21),fo,fu]
abbrev mH:X:=.bin .eql .u8 (.var kB 10) bM
abbrev mI:X:=.not (.beq iN jO)
abbrev mJ:List X:=[dD,ae,ay,aC,dU,aA,dX,dZ]
abbrev mK:X:=.var .bool 33
abbrev mM:X:=.var kU 34
abbrev mO:SV:=.int .u64 mM
abbrev mP:SV:=.int .u64 (.var kU 38)
abbrev mQ:X:=.var kU 39
abbrev mR:SV:=.int .u64 ma
abbrev mU:vo SV:=.leaf (.agg [jJ,mR,(.int .u8 (.var kB 32))])
abbrev mV:vo SV:=.leaf (.agg [mO,mD,gY])
abbrev mW:vo SV:=.ite mK mU (.call 141 [dD,mI] 34 2 mV)
abbrev mX:List X:=[dD,ai,ay,aC,dU,aA,dX,dZ]
abbrev mY:vo SV:=.ite (.not (.var .bool 29)) (.ite mH (.ite (.not (.beq mI gW)) (.call 3000140 mJ 30 4 (.call 3000140 [dD,(.not mK),ay,aC,dU,aA,dX,dZ] 34 4 (.ite (.var .bool 37) (.leaf (.agg [mO,mD,(.int .u8 (.var kB 36))])) (.call 141 [dD,mI] 38 2 (.leaf (.agg [mP,(.int .u64 mQ),gY])))))) (.call 3000140 mJ 30 4 mW)) (.call 3000140 mJ 30 4 mW)) (.call 3000140 mX 30 4 mW)
abbrev mZ:List X:=[eH,eG,ae,ae]
abbrev ng:vo SV:=.leaf (.agg [(.int .u64 (.var kU 54)),(.int .u64 (.var kU 55)),(.int .u8 (.var kB 56))])
abbrev ni:X:=.var kU 40
abbrev nk:X:=.var kU 41
abbrev nu:SV:=.int .u64 (.var kU 44)
abbrev ny:SV:=.int .u64 (.var kU 45)
abbrev nA:vo SV:=.call 147 [dD,dI,dH,mI,(.var kI 38),mQ,ni,nk,(.var kU 42)] 44 3 (.leaf (.agg [nu,ny,(.int .u8 (.var kB 46))]))
abbrev nC:vo SV:=.ite mK mU (.ite mH (.call 141 [dD,gW] 34 2 mV) (.call 150 mZ 34 4 (.call 200 [(.var kI 24),jC,jE,jF,l8,lM,mM,mr,mh,(.var kU 37)] 38 5 (.ite (.not (.beq mI gW)) (.call 150 mZ 43 4 (.call 202 [(.var kI 24),jC,jE,jF,l8,lM,(.var kU 43),(.var kU 44),(.var kU 45),(.var kU 46)] 47 6 (.call 166 [(.var kU 48),(.var kU 49),(.var kU 50),(.var kU 51)] 53 1 (.ite (.var .bool 53) (.call 147 [dD,dI,dH,dM,(.var kI 47),(.var kU 48),(.var kU 49),(.var kU 50),(.var kU 51)] 54 3 ng) (.call 147 [dD,dI,dH,(.not (.beq mI (.var .bool 52))),(.var kI 47),(.var kU 48),(.var kU 49),(.var kU 50),(.var kU 51)] 54 3 ng))))) (.call 166 [mQ,ni,nk,(.var kU 42)] 43 1 (.ite (.var .bool 43) nA nA))))))
abbrev nD:vo SV:=.leaf (.agg [iw,fI,(.int .u8 (.var kB 12))])
abbrev nE:vo SV:=.call 141 [dD,kw] 21 2 j4
abbrev nG:X:=.bin .eql .u8 jS ae
abbrev nH:vo SV:=.call 152 [dD,kw] 21 2 j4
abbrev nI:List X:=[jC,jE,jF,l8,(.lit 100)]
abbrev nJ:X:=.not (.var .bool 36)
abbrev nK:X:=.bin .add .i64 (.bin .sub .i64 iX jm) (.lit 27)
abbrev nL:vo SV:=.leaf (.agg [mo,mP,(.int .u8 (.var kB 39))])
abbrev nM:vo SV:=.ite nG nH (.ite (.bin .eql .u8 iM ae) (.call 141 [dD,kw] 21 2 (.leaf (.agg [fe,fq,iV]))) (.call 150 lZ 21 4 (.call 149 [eZ,fo,fu,fC,eX,eO] 25 7 (.call 151 nI 32 4 (.call 50 [jG,jI] 36 1 (.ite nJ (.call 147 [dD,dI,dH,kw,nK,(.bin .or .u64 mf ai),mg,mM,mr] 37 3 nL) (.call 147 [dD,dI,dH,kw,nK,mf,mg,mM,mr] 37 3 nL)))))))
abbrev nO:vo SV:=.call 35 iH 20 2 ky
abbrev nP:X:=.bin .sub .i64 kH ai
abbrev nQ:X:=.bin .lss .i64 iq nP
abbrev nR:X:=.bin .eql .i64 iq nP
abbrev nS:List X:=[dZ,ed,eG,eY]
abbrev nT:X:=.bin .add .i64 (.min iq kH) aO
abbrev nU:X:=.not (.beq ik ae)
abbrev nV:X:=.bin .sub .i64 iq kH
abbrev nX:X:=.bin .gtr .i64 nV ae
abbrev nY:vo SV:=.ite (.bin .neq .u8 (.var kB 38) ae) iY (.leaf (.agg [mi,mo,gY]))
abbrev nZ:vo SV:=.call 155 [jF,l8] 31 4 (.call 166 [ma,mf,mg,mM] 35 1 (.call 147 [dD,cu,ae,(.not (.beq ik (.not (.var .bool 35)))),nT,ma,mf,mg,mM] 36 3 nY))
abbrev og:vo SV:=.call 155 [fu,fC] 31 4 (.call 147 [dD,cu,ae,nU,nT,ma,mf,mg,mM] 35 3 (.ite (.bin .neq .u8 (.var kB 37) ae) iY (.leaf (.agg [mD,mi,gY]))))
abbrev oh:vo SV:=.call 227 [eG,eY,fu,fC] 27 3 (.call 159 [fu,fC,jF,l8] 30 1 (.ite (.bin .gtr .i64 (.var kI 30) ae) nZ (.ite (.bin .eql .i64 (.var kI 30) ae) (.ite j6 nZ og) og)))
abbrev ol:X:=.bin .gtr .i64 (.var kI 26) ae
abbrev om:SV:=.int .u64 mg
abbrev oo:vo SV:=.ite (.bin .neq .u8 (.var kB 34) ae) iY (.leaf (.agg [(.int .u64 mf),om,gY]))
abbrev oq:vo SV:=.call 155 [fu,fC] 27 4 (.call 166 [jF,l8,jG,jI] 31 1 (.call 147 [dD,cu,ae,(.not (.beq ik (.not (.var .bool 31)))),nT,jF,l8,jG,jI] 32 3 oo))
abbrev ou:X:=.bin .eql .i64 (.var kI 26) ae
abbrev ow:vo SV:=.call 147 [dD,cu,ae,nU,nT,jF,l8,jG,jI] 31 3 (.ite (.bin .neq .u8 (.var kB 33) ae) iY (.leaf (.agg [mR,(.int .u64 mf),gY])))
abbrev oz:vo SV:=.call 155 [dZ,ed] 27 4 ow
abbrev oC:vo SV:=.call 35 iH 21 2 j4
abbrev oD:X:=.bin .neq .u8 (.var kB 28) ae
abbrev oF:vo SV:=.leaf (.agg [kz,(.int .u64 jF),gY])
abbrev oG:vo SV:=.call 155 [l8,jG] 32 4 (.call 166 [mf,mg,mM,mr] 36 1 (.call 147 [dD,cu,ae,(.not (.beq ik nJ)),nT,mf,mg,mM,mr] 37 3 (.ite (.bin .neq .u8 (.var kB 39) ae) iY (.leaf (.agg [mo,mP,gY])))))
abbrev oH:vo SV:=.call 155 [fC,jC] 32 4 (.call 147 [dD,cu,ae,nU,nT,mf,mg,mM,mr] 36 3 nY)
abbrev oI:vo SV:=.call 227 [eG,eY,fC,jC] 28 3 (.call 159 [fC,jC,l8,jG] 31 1 (.ite (.bin .gtr .i64 (.var kI 31) ae) oG (.ite (.bin .eql .i64 (.var kI 31) ae) (.ite (.var .bool 26) oG oH) oH)))
abbrev oJ:X:=.bin .gtr .i64 (.var kI 27) ae
abbrev oK:vo SV:=.call 155 [fC,jC] 28 4 (.call 166 [l8,jG,jI,ma] 32 1 (.call 147 [dD,cu,ae,(.not (.beq ik (.not (.var .bool 32)))),nT,l8,jG,jI,ma] 33 3 (.ite (.bin .neq .u8 (.var kB 35) ae) iY (.leaf (.agg [om,mO,gY])))))
abbrev oL:X:=.bin .eql .i64 (.var kI 27) ae
abbrev oM:vo SV:=.call 147 [dD,cu,ae,nU,nT,l8,jG,jI,ma] 32 3 oo
abbrev oN:vo SV:=.call 155 [dZ,ed] 28 4 oM
abbrev oO:vo SV:=.ite kP oC (.ite nQ oC (.ite nR (.call 155 [dZ,ed] 21 4 (.call 159 nS 25 1 (.ite (.bin .gtr .i64 (.var kI 25) ae) (.call 155 [eG,eY] 26 4 (.call 155 [eG,eY] 30 4 (.call 160 [jE,jF,l8,jG,jI,ma,mf,mg] 34 5 (.call 161 [mM,mr,mh,(.var kU 37),eZ,fo,fu,fC] 39 5 (.call 166 [mQ,ni,nk,(.var kU 42)] 44 1 (.call 147 [dD,cu,ae,(.not (.beq ik (.not (.var .bool 44)))),nT,mQ,ni,nk,(.var kU 42)] 45 3 (.ite (.bin .neq .u8 (.var kB 47) ae) iY (.leaf (.agg [ny,(.int .u64 (.var kU 46)),gY]))))))))) (.call 147 [dD,cu,ae,nU,nT,eZ,fo,fu,fC] 26 3 (.ite oD iY oF))))) (.call 227 nS 21 3 (.ite (.not jY) (.ite nX (.call 228 [eZ,fo,nV,eG,eY] 24 4 oI) (.call 227 [eG,eY,eZ,fo] 24 3 (.call 159 [eZ,fo,fC,jC] 27 1 (.ite oJ oK (.ite oL oK (.call 155 [eZ,fo] 28 4 oM)))))) (.ite nX (.call 228 [dZ,ed,nV,eG,eY] 24 4 oI) (.call 227 [eG,eY,dZ,ed] 24 3 (.call 159 [dZ,ed,fC,jC] 27 1 (.ite oJ oK (.ite oL oN oN)))))))))
abbrev oP:vo SV:=.ite jh lU (.ite dK oC oO)
abbrev oQ:vo SV:=.leaf (.agg [gQ,gT,gY])
abbrev oU:List X:=[dZ,ed,ae,ae]
abbrev oV:X:=.bin .sub .i64 iq ib
abbrev oZ:X:=.bin .add .i64 (.bin .quo .i64 (.bin .add .i64 oV ai) aZ) (.lit 155)
abbrev o9:vo SV:=.leaf (.agg [om,mO,(.int .u8 (.var kB 35))])
abbrev pg:X:=.not jh
abbrev pq:X:=.bin .add .i64 (.bin .quo .i64 oV aZ) (.lit 155)
abbrev pu:vo SV:=.leaf (.agg [jH,jJ,(.int .u8 (.var kB 31))])
abbrev pz:vo SV:=.ite dO (.call 141 [dD,ik] 14 2 oQ) (.call 150 oU 14 4 (.ite (.bin .neq .i64 (.bin .rem .i64 oV aZ) ae) (.call 153 [eY,eX,eO,eQ,ai] 18 4 (.call 154 [eT,eU,gN,eZ] 22 3 (.call 155 [fo,fu] 25 4 (.call 151 nI 29 4 (.ite (.not jZ) (.call 147 [dD,dI,dH,ae,oZ,(.bin .or .u64 jG ai),jI,ma,mf] 33 3 o9) (.call 147 [dD,dI,dH,ae,oZ,jG,jI,ma,mf] 33 3 o9)))))) (.call 154 [eY,eX,eO,eQ] 18 3 (.call 155 [eT,eU] 21 4 (.call 151 [eZ,fo,fu,fC,(.lit 100)] 25 4 (.ite pg (.call 147 [dD,dI,dH,ae,pq,(.bin .or .u64 jC ai),jE,jF,l8] 29 3 pu) (.call 147 [dD,dI,dH,ae,pq,jC,jE,jF,l8] 29 3 pu)))))))
abbrev pE:List X:=[dD,ae,ay,aC]
abbrev pF:vo SV:=.call 152 [dD,ik] 14 2 oQ
abbrev pG:X:=.conv .u64 (.conv .i64 (.conv .i32 aC))
abbrev pI:X:=.bin .eql .u64 (.bin .shr .u64 pG ax) ai
abbrev pJ:vo SV:=.leaf (.agg [dV,aB,(.int .u8 (.var kB 7))])
abbrev pK:X:=.bin .eql .u8 dD ai
abbrev pM:X:=.bin .eql .u8 dD aZ
abbrev pO:X:=.bin .eql .u64 (.bin .shr .u64 aC ax) ai
abbrev pQ:vo SV:=.leaf (.bool (.bin .eql .u64 ag ag))
abbrev pR:X:=.bin .eql .u8 dD bM
abbrev pU:vo SV:=.leaf (.agg [aL,gY])
abbrev pV:X:=.bin .eql .i64 dI ae
abbrev pW:X:=.bin .eql .i64 dI ai
abbrev pY:X:=.bin .eql .i64 dI aZ
abbrev p8:X:=.ite pV (.lit 2147483648) (.ite pW ae (.ite pY jd ae))
abbrev p9:vo SV:=.leaf (.agg [(.int .u64 (.bin .sub .u64 ae p8)),iU])
abbrev qa:X:=.bin .gtr .i64 iq (.lit 64)
abbrev qf:X:=.bin .lss .i64 iq ae
abbrev qg:List X:=[eD,eF,eH,eG,(.bin .sub .i64 (.bin .sub .i64 ae iq) ai)]
abbrev qh:List X:=[eY,eX,eO,eQ,ae,kK,ik]
abbrev qi:X:=.bin .gtr .i64 (.var kI 21) ae
abbrev qj:SV:=.int .u64 (.bin .sub .u64 ae eU)
abbrev qm:List X:=[eD,eF,eH,eG,(.bin .add .i64 iq ai),kK,ik]
abbrev qo:X:=.bin .gtr .i64 (.var kI 17) ae
abbrev qp:SV:=.int .u64 (.bin .sub .u64 ae eX)
abbrev qw:X:=.ite pV (.lit 2147483647) (.ite pW (.lit 4294967295) (.ite pY (.lit 9223372036854775807) iG))
abbrev qx:vo SV:=.leaf (.agg [(.int .u64 qw),iU])
abbrev qy:vo SV:=.ite dH (.leaf (.agg [aL,aL,jN])) iY
abbrev qz:vo SV:=.leaf (.agg [jJ,mR,gY])
abbrev qA:vo SV:=.leaf (.tup [gY,gY])
abbrev qB:vo SV:=.leaf (.tup [iW,iU])
abbrev qC:vo SV:=.ite fV qB (.leaf (.tup [iW,gY]))
abbrev qD:vo SV:=.ite kX qB (.leaf (.tup [iW,gY]))
abbrev qE:vo SV:=.ite fV qA (.leaf (.tup [iV,gY]))
abbrev qF:vo SV:=.leaf (.tup [iU,gY])
abbrev qG:vo SV:=.ite kw qE (.ite fV (.leaf (.tup [iV,gY])) qA)
abbrev qH:vo SV:=.ite kw qE (.ite fV (.leaf (.tup [(.int .u8 (.bin .add .u8 ai (.conv .u8 (.bin .sub .i64 ae (.var kI 25))))),gY])) (.leaf (.tup [(.int .u8 (.bin .add .u8 ai (.conv .u8 (.var kI 25)))),gY])))
abbrev qI:vo SV:=.call 139 iH 7 5 (.call 139 jb 12 5 (.ite ku (.ite kv (.ite kw qE (.ite fV qF qF)) (.ite kw qE qE)) (.ite kv (.ite nG qG qG) (.call 150 lZ 17 4 (.call 150 l7 21 4 (.call 244 [iX,eQ,eT,eU,gN,jm,eZ,fo,fu,fC] 25 1 (.ite nG (.ite (.bin .eql .u8 iM ae) qF qH) qH)))))))
abbrev qJ:X:=.not (.bin .leq .u8 jc cu)
abbrev qK:X:=.var kB 4
abbrev qL:X:=.bin .gtr .u8 qK ai
abbrev qM:X:=.not (.bin .eql .u8 kK ae)
abbrev qN:List X:=[dI,dU,aA]
abbrev qO:List X:=[dI,dX,dZ]
abbrev qP:X:=.bin .eql .u64 eD ae
abbrev qQ:X:=.not (.and (.bin .eql .u64 ed ae) (.and qP ai))
abbrev qR:vo SV:=.ite kC lH (.ite qJ lH (.ite qL lH (.ite qM lH (.call 16 qN 11 1 (.ite kT (.call 16 qO 12 1 (.ite jT (.ite qQ lH (.leaf dC)) lH)) lH)))))
abbrev qU:X:=.bin .eql .u8 dD (.lit 5)
abbrev qV:X:=.and (.bin .eql .u64 dX ae) (.and (.bin .eql .u64 dZ ae) ai)
abbrev qW:vo SV:=.ite kT (.ite qV (.ite qQ lH (.leaf dC)) lH) lH
abbrev qX:vo SV:=.ite kC lH (.ite qJ lH (.ite qL lH (.ite qM lH (.call 16 qN 11 1 qW))))
abbrev qY:List X:=[dI,ed,eD]
abbrev qZ:X:=.bin .eql .u8 dD (.lit 7)
abbrev rf:X:=.bin .eql .u8 dD (.lit 8)
abbrev rq:X:=.bin .eql .u8 dD (.lit 9)
abbrev ry:X:=.bin .eql .u8 dD (.lit 10)
abbrev rG:X:=.not (.bin .lss .i64 kK cu)
abbrev rH:vo SV:=.ite kC lH (.ite qJ lH (.ite qL lH (.ite rG lH (.call 16 qN 11 1 qW))))
abbrev rJ:X:=.bin .eql .u8 dD (.lit 11)
abbrev rM:X:=.bin .eql .u8 dD (.lit 12)
abbrev rR:X:=.bin .eql .u64 dU ae
abbrev rT:X:=.bin .eql .u8 dD (.lit 13)
abbrev rU:X:=.bin .eql .u8 dD (.lit 14)
abbrev rX:vo SV:=.leaf (.agg [(.int .i64 ai),aL,aL,gY])
abbrev rY:X:=.bin .eql .u8 qK ai
abbrev r9:List X:=[dI,jc,rY,dU,aA,dX,dZ]
abbrev sj:vo SV:=.leaf (.agg [dC,iy,gQ,(.int .u8 (.var kB 15))])
abbrev su:X:=.var kB 14
abbrev sw:vo SV:=.leaf (.agg [dC,fJ,iy,(.int .u8 su)])
abbrev sD:List X:=[dI,dU,aA,dX,dZ]
abbrev sF:vo SV:=.leaf (.agg [dC,aL,(.int .u64 iM),(.int .u8 su)])
abbrev sG:vo SV:=.leaf gm
abbrev sH:List X:=[dI,eH,eG]
abbrev sI:X:=.bin .eql .u8 su ai
abbrev sJ:vo SV:=.ite (.bin .neq .u8 dD (.lit 12)) sG (.call 16 sH 15 1 (.ite (.not lg) av (.call 15 sH 16 1 (.ite ll av (.call 14 sH 17 1 (.ite (.beq jW sI) sG av))))))
abbrev sK:List X:=[kK,eH,eG]
abbrev sM:vo SV:=.call 14 sK 19 1 (.ite (.beq jO ai) sG av)
abbrev sN:X:=.not jV
abbrev sO:vo SV:=.call 14 sK 20 1 (.ite (.beq jh ai) sG av)
abbrev sQ:vo SV:=.call 16 sK 18 1 (.ite sN av (.call 15 sK 19 1 (.ite jO av sO)))
abbrev sS:X:=.not jO
abbrev sU:vo SV:=.call 14 sK 21 1 (.ite (.beq jr ai) sG av)
abbrev sV:vo SV:=.call 16 sK 19 1 (.ite sS av (.call 15 sK 20 1 (.ite jh av sU)))
abbrev sW:vo SV:=.call 15 qN 16 1 (.ite ll (.call 16 sK 17 1 (.ite kg av (.call 15 sK 18 1 (.ite jV av sM)))) (.call 15 qO 17 1 (.ite jW sQ (.call 15 qY 18 1 (.ite jV sV sV)))))
abbrev sZ:vo SV:=.call 14 sK 22 1 (.ite (.beq kJ ai) sG av)
abbrev tq:vo SV:=.call 16 sK 20 1 (.ite pg av (.call 15 sK 21 1 (.ite jr av sZ)))
abbrev tu:X:=.not jr
abbrev tC:vo SV:=.call 14 sK 23 1 (.ite (.beq jY ai) sG av)
abbrev tH:vo SV:=.call 16 sK 21 1 (.ite tu av (.call 15 sK 22 1 (.ite kJ av tC)))
abbrev tJ:vo SV:=.call 14 sK 21 1 (.ite (.beq jr sI) sG av)
abbrev tK:vo SV:=.call 14 sK 22 1 (.ite (.beq kJ sI) sG av)
abbrev tL:vo SV:=.call 14 sK 23 1 (.ite (.beq jY sI) sG av)
abbrev tN:vo SV:=.call 16 sK 21 1 (.ite tu av (.call 15 sK 22 1 (.ite kJ av tL)))
abbrev tO:vo SV:=.call 14 qO 16 1 (.ite ll (.call 15 qN 17 1 (.ite jW sQ (.call 15 qO 18 1 (.ite jV sV (.call 15 qY 19 1 (.ite jO tq tq)))))) (.call 14 qY 17 1 (.ite jW (.call 15 qN 18 1 (.ite jV sV (.call 15 qO 19 1 (.ite jO tq (.call 15 qY 20 1 (.ite jh tH tH)))))) (.call 15 qN 18 1 (.ite jV (.call 16 sK 19 1 (.ite sS av (.call 15 sK 20 1 (.ite jh av tJ)))) (.call 15 qO 19 1 (.ite jO (.call 16 sK 20 1 (.ite pg av (.call 15 sK 21 1 (.ite jr av tK)))) (.call 15 qY 20 1 (.ite jh tN tN)))))))))
abbrev tQ:vo SV:=.call 14 sH 19 1 (.ite (.beq jO ai) sG av)
abbrev tV:vo SV:=.call 14 sH 20 1 (.ite (.beq jh ai) sG av)
abbrev tX:vo SV:=.call 16 sH 18 1 (.ite sN av (.call 15 sH 19 1 (.ite jO av tV)))
abbrev tY:vo SV:=.call 14 sH 21 1 (.ite (.beq jr ai) sG av)
abbrev tZ:vo SV:=.call 16 sH 19 1 (.ite sS av (.call 15 sH 20 1 (.ite jh av tY)))
abbrev uf:vo SV:=.call 15 qN 16 1 (.ite ll (.call 16 sH 17 1 (.ite kg av (.call 15 sH 18 1 (.ite jV av tQ)))) (.call 15 qO 17 1 (.ite jW tX (.call 15 qY 18 1 (.ite jV tZ tZ)))))
abbrev ug:vo SV:=.call 14 sH 22 1 (.ite (.beq kJ ai) sG av)
abbrev uh:vo SV:=.call 16 sH 20 1 (.ite pg av (.call 15 sH 21 1 (.ite jr av ug)))
abbrev ui:vo SV:=.call 14 sH 23 1 (.ite (.beq jY ai) sG av)
abbrev uj:vo SV:=.call 16 sH 21 1 (.ite tu av (.call 15 sH 22 1 (.ite kJ av ui)))
abbrev uk:vo SV:=.call 14 sH 21 1 (.ite (.beq jr sI) sG av)
abbrev ul:vo SV:=.call 14 sH 22 1 (.ite (.beq kJ sI) sG av)
abbrev um:vo SV:=.call 14 sH 23 1 (.ite (.beq jY sI) sG av)
abbrev uo:vo SV:=.call 16 sH 21 1 (.ite tu av (.call 15 sH 22 1 (.ite kJ av um)))
abbrev uq:vo SV:=.call 14 qO 16 1 (.ite ll (.call 15 qN 17 1 (.ite jW tX (.call 15 qO 18 1 (.ite jV tZ (.call 15 qY 19 1 (.ite jO uh uh)))))) (.call 14 qY 17 1 (.ite jW (.call 15 qN 18 1 (.ite jV tZ (.call 15 qO 19 1 (.ite jO uh (.call 15 qY 20 1 (.ite jh uj uj)))))) (.call 15 qN 18 1 (.ite jV (.call 16 sH 19 1 (.ite sS av (.call 15 sH 20 1 (.ite jh av uk)))) (.call 15 qO 19 1 (.ite jO (.call 16 sH 20 1 (.ite pg av (.call 15 sH 21 1 (.ite jr av ul)))) (.call 15 qY 20 1 (.ite jh uo uo)))))))))
abbrev ut:vo SV:=.call 16 sK 18 1 (.ite sN av (.call 15 sK 19 1 (.ite jO av av)))
abbrev uu:vo SV:=.call 16 sK 19 1 (.ite sS av (.call 15 sK 20 1 (.ite jh av av)))
abbrev uw:vo SV:=.call 15 qN 16 1 (.ite ll (.call 16 sK 17 1 (.ite kg av (.call 15 sK 18 1 (.ite jV av av)))) (.call 15 qO 17 1 (.ite jW ut (.call 15 qY 18 1 (.ite jV uu sV)))))
abbrev uy:vo SV:=.call 16 sK 20 1 (.ite pg av (.call 15 sK 21 1 (.ite jr av av)))
abbrev uz:vo SV:=.call 16 sK 21 1 (.ite tu av (.call 15 sK 22 1 (.ite kJ av av)))
abbrev uA:vo SV:=.call 14 qO 16 1 (.ite ll (.call 15 qN 17 1 (.ite jW ut (.call 15 qO 18 1 (.ite jV uu (.call 15 qY 19 1 (.ite jO uy tq)))))) (.call 14 qY 17 1 (.ite jW (.call 15 qN 18 1 (.ite jV uu (.call 15 qO 19 1 (.ite jO uy (.call 15 qY 20 1 (.ite jh uz tH)))))) (.call 15 qN 18 1 (.ite jV uu (.call 15 qO 19 1 (.ite jO uy (.call 15 qY 20 1 (.ite jh uz tN)))))))))
abbrev uB:vo SV:=.call 16 sH 18 1 (.ite sN av (.call 15 sH 19 1 (.ite jO av av)))
abbrev uC:vo SV:=.call 16 sH 19 1 (.ite sS av (.call 15 sH 20 1 (.ite jh av av)))
abbrev uD:vo SV:=.call 15 qN 16 1 (.ite ll (.call 16 sH 17 1 (.ite kg av (.call 15 sH 18 1 (.ite jV av av)))) (.call 15 qO 17 1 (.ite jW uB (.call 15 qY 18 1 (.ite jV uC tZ)))))
abbrev uE:vo SV:=.call 16 sH 20 1 (.ite pg av (.call 15 sH 21 1 (.ite jr av av)))
abbrev uF:vo SV:=.call 16 sH 21 1 (.ite tu av (.call 15 sH 22 1 (.ite kJ av av)))
abbrev uG:vo SV:=.call 14 qO 16 1 (.ite ll (.call 15 qN 17 1 (.ite jW uB (.call 15 qO 18 1 (.ite jV uC (.call 15 qY 19 1 (.ite jO uE uh)))))) (.call 14 qY 17 1 (.ite jW (.call 15 qN 18 1 (.ite jV uC (.call 15 qO 19 1 (.ite jO uE (.call 15 qY 20 1 (.ite jh uF uj)))))) (.call 15 qN 18 1 (.ite jV uC (.call 15 qO 19 1 (.ite jO uE (.call 15 qY 20 1 (.ite jh uF uo)))))))))
abbrev uH:X:=.bin .neq .u8 su ai
abbrev uI:vo SV:=.call 16 sK 18 1 (.ite sN av (.call 15 sK 19 1 (.ite jO av (.ite uH av sO))))
abbrev uJ:vo SV:=.call 16 sK 19 1 (.ite sS av (.call 15 sK 20 1 (.ite jh av (.ite uH av sU))))
abbrev uK:vo SV:=.call 15 qN 16 1 (.ite ll (.call 16 sK 17 1 (.ite kg av (.call 15 sK 18 1 (.ite jV av (.ite uH av sM))))) (.call 15 qO 17 1 (.ite jW uI (.call 15 qY 18 1 (.ite jV uJ sV)))))
abbrev uL:vo SV:=.call 16 sK 20 1 (.ite pg av (.call 15 sK 21 1 (.ite jr av (.ite uH av sZ))))
abbrev uM:vo SV:=.call 15 qN 17 1 (.ite jW uI (.call 15 qO 18 1 (.ite jV uJ (.call 15 qY 19 1 (.ite jO uL tq)))))
abbrev uO:vo SV:=.call 14 qY 17 1 (.ite jW (.call 15 qN 18 1 (.ite jV uJ (.call 15 qO 19 1 (.ite jO uL (.call 15 qY 20 1 (.ite jh (.call 16 sK 21 1 (.ite tu av (.call 15 sK 22 1 (.ite kJ av (.ite uH av tC))))) tH)))))) (.call 15 qN 18 1 (.ite jV (.call 16 sK 19 1 (.ite sS av (.call 15 sK 20 1 (.ite jh av (.ite uH av tJ))))) (.call 15 qO 19 1 (.ite jO (.call 16 sK 20 1 (.ite pg av (.call 15 sK 21 1 (.ite jr av (.ite uH av tK))))) (.call 15 qY 20 1 (.ite jh (.call 16 sK 21 1 (.ite tu av (.call 15 sK 22 1 (.ite kJ av (.ite uH av tL))))) tN)))))))
abbrev uP:vo SV:=.call 16 sH 18 1 (.ite sN av (.call 15 sH 19 1 (.ite jO av (.ite uH av tV))))
abbrev uQ:vo SV:=.call 16 sH 19 1 (.ite sS av (.call 15 sH 20 1 (.ite jh av (.ite uH av tY))))
abbrev uR:vo SV:=.call 15 qN 16 1 (.ite ll (.call 16 sH 17 1 (.ite kg av (.call 15 sH 18 1 (.ite jV av (.ite uH av tQ))))) (.call 15 qO 17 1 (.ite jW uP (.call 15 qY 18 1 (.ite jV uQ tZ)))))
abbrev uS:vo SV:=.call 16 sH 20 1 (.ite pg av (.call 15 sH 21 1 (.ite jr av (.ite uH av ug))))
abbrev uT:vo SV:=.call 15 qN 17 1 (.ite jW uP (.call 15 qO 18 1 (.ite jV uQ (.call 15 qY 19 1 (.ite jO uS uh)))))
abbrev uU:vo SV:=.call 14 qY 17 1 (.ite jW (.call 15 qN 18 1 (.ite jV uQ (.call 15 qO 19 1 (.ite jO uS (.call 15 qY 20 1 (.ite jh (.call 16 sH 21 1 (.ite tu av (.call 15 sH 22 1 (.ite kJ av (.ite uH av ui))))) uj)))))) (.call 15 qN 18 1 (.ite jV (.call 16 sH 19 1 (.ite sS av (.call 15 sH 20 1 (.ite jh av (.ite uH av uk))))) (.call 15 qO 19 1 (.ite jO (.call 16 sH 20 1 (.ite pg av (.call 15 sH 21 1 (.ite jr av (.ite uH av ul))))) (.call 15 qY 20 1 (.ite jh (.call 16 sH 21 1 (.ite tu av (.call 15 sH 22 1 (.ite kJ av (.ite uH av um))))) uo)))))))
abbrev uV:X:=.bin .neq .u8 (.bin .and .u8 su ai) ae
abbrev uW:X:=.bin .neq .u8 (.bin .and .u8 su aZ) ae
abbrev uX:X:=.bin .geq .u8 dD (.lit 11)
def Yx:vo SV :=
 (.leaf (.bool (.and af (.and ah ai))))
theorem alO:wM (ctx E0) 3000 50 (ww KX.a (wm 0 (vD KX.a))) (vD KX.a).length=Yx:=by kernel_rfl
def Ip:List Int→List Int:=vU (vK E0) KX Yx
theorem adD:wh Tryz.prog gG ⟨50,KX,Ip⟩:=xw (xx Bg) 3000 alO (by kernel_rfl)
def Nn:Ct:=⟨[.agg [kU,kU],.sc kI],[.sc .bool]⟩
def Yy:vo SV :=
 (.ite ak av (.ite (.bin .gtr .i64 aj (.lit 127)) av (.ite (.bin .gtr .i64 aj ax) (.leaf (.bool (.bin .eql .u64 (.bin .and .u64 (.bin .shr .u64 aa (.bin .sub .i64 aj (.lit 64))) ai) ai))) (.leaf (.bool (.bin .eql .u64 (.bin .and .u64 (.bin .shr .u64 ag aj) ai) ai))))))
theorem alP:wM (ctx E0) 3000 52 (ww Nn.a (wm 0 (vD Nn.a))) (vD Nn.a).length=Yy:=by kernel_rfl
def Gp:List Int→List Int:=vU (vK E0) Nn Yy
theorem alQ:wh Tryz.prog gG ⟨52,Nn,Gp⟩:=xw (xx Bg) 3000 alP (by kernel_rfl)
def Np:Ct:=⟨[.agg [kU,kU],.agg [kU,kU]],[.agg [kU,kU],.sc .bool]⟩
def Yz:vo SV :=
 (.call 225 [ag,ay,ae] 4 2 (.call 225 [aa,az,(.var .bit 5)] 6 2 aF))
theorem alR:wM (ctx E0) 3000 192 (ww Np.a (wm 0 (vD Np.a))) (vD Np.a).length=Yz:=by kernel_rfl
def CS:List Int→List Int:=vU (vK E0) Np Yz
theorem alS:wh Tryz.prog gG ⟨192,Np,CS⟩:=xw (xx Bg) 3000 alR (by kernel_rfl)
def Nq:Ct:=⟨[.agg [kU,kU],.agg [kU,kU]],[.agg [kU,kU],.sc .bool]⟩
def YA:vo SV :=
 (.call 226 [ag,ay,ae] 4 2 (.call 226 [aa,az,(.var .bit 5)] 6 2 aF))
theorem alT:wM (ctx E0) 3000 227 (ww Nq.a (wm 0 (vD Nq.a))) (vD Nq.a).length=YA:=by kernel_rfl
def Gq:List Int→List Int:=vU (vK E0) Nq YA
theorem alU:wh Tryz.prog gG ⟨227,Nq,Gq⟩:=xw (xx Bg) 3000 alT (by kernel_rfl)
def Nr:Ct:=⟨[.sc kU,.sc kU],[.agg [kU,kU]]⟩
def YB:vo SV :=
 (.call 268 [aa,ag] 2 2 (.leaf (.agg [aG,aH])))
theorem alV:wM (ctx E0) 3000 247 (ww Nr.a (wm 0 (vD Nr.a))) (vD Nr.a).length=YB:=by kernel_rfl
def Ns:List Int→List Int:=vU (vK E0) Nr YB
theorem alW:wh Tryz.prog gG ⟨247,Nr,Ns⟩:=xw (xx Bg) 3000 alV (by kernel_rfl)
def Nt:Ct:=⟨[.agg [kU,kU],.agg [kU,kU]],[.agg [kU,kU,kU,kU]]⟩
def YC:vo SV :=
 (.leaf (.agg [aH,aG,aJ,aK]))
theorem alX:wM (ctx E0) 3000 150 (ww Nt.a (wm 0 (vD Nt.a))) (vD Nt.a).length=YC:=by kernel_rfl
def yT:List Int→List Int:=vU (vK E0) Nt YC
theorem alY:wh Tryz.prog gG ⟨150,Nt,yT⟩:=xw (xx Bg) 3000 alX (by kernel_rfl)
def Nu:Ct:=⟨[.agg [kU,kU]],[.agg [kU,kU,kU,kU]]⟩
def YD:vo SV :=
 (.leaf (.agg [aJ,aK,aL,aL]))
theorem alZ:wM (ctx E0) 3000 155 (ww Nu.a (wm 0 (vD Nu.a))) (vD Nu.a).length=YD:=by kernel_rfl
def Fv:List Int→List Int:=vU (vK E0) Nu YD
theorem al0:wh Tryz.prog gG ⟨155,Nu,Fv⟩:=xw (xx Bg) 3000 alZ (by kernel_rfl)
def Nv:Ct:=⟨[.agg [kU,kU,kU,kU]],[.agg [kU,kU]]⟩
def YE:vo SV :=
 (.leaf (.agg [aH,aG]))
theorem al1:wM (ctx E0) 3000 241 (ww Nv.a (wm 0 (vD Nv.a))) (vD Nv.a).length=YE:=by kernel_rfl
def Gr:List Int→List Int:=vU (vK E0) Nv YE
theorem al2:wh Tryz.prog gG ⟨241,Nv,Gr⟩:=xw (xx Bg) 3000 al1 (by kernel_rfl)
def Nw:Ct:=⟨[.agg [kU,kU,kU,kU]],[.agg [kU,kU]]⟩
def YF:vo SV :=
 (.leaf (.agg [aJ,aK]))
theorem al3:wM (ctx E0) 3000 249 (ww Nw.a (wm 0 (vD Nw.a))) (vD Nw.a).length=YF:=by kernel_rfl
def Gs:List Int→List Int:=vU (vK E0) Nw YF
theorem al4:wh Tryz.prog gG ⟨249,Nw,Gs⟩:=xw (xx Bg) 3000 al3 (by kernel_rfl)
def Ny:Ct:=⟨[.agg [kU,kU,kU,kU]],[.sc .bool]⟩
def YG:vo SV :=
 (.leaf (.bool (.and af (.and ah (.and aM (.and (.bin .eql .u64 ay ae) ai))))))
theorem al5:wM (ctx E0) 3000 166 (ww Ny.a (wm 0 (vD Ny.a))) (vD Ny.a).length=YG:=by kernel_rfl
def CU:List Int→List Int:=vU (vK E0) Ny YG
theorem al6:wh Tryz.prog gG ⟨166,Ny,CU⟩:=xw (xx Bg) 3000 al5 (by kernel_rfl)
def KY:Ct:=⟨[.agg [kU,kU],.sc kI],[.agg [kU,kU]]⟩
def YH:vo SV :=
 (.leaf (.agg [(.int .u64 (.bin .or .u64 (.bin .shl .u64 (.ite (.bin .lss .i64 aT ae) ae (.ite (.bin .eql .i64 aT ae) ag aa)) aU) (.bin .shr .u64 (.bin .shr .u64 (.ite (.bin .lss .i64 (.bin .sub .i64 aT ai) ae) ae ag) ai) aV))),(.int .u64 (.bin .or .u64 (.bin .shl .u64 (.ite (.bin .lss .i64 (.bin .sub .i64 ae aS) ae) ae ag) aU) (.bin .shr .u64 ae aV)))]))
theorem al7:wM (ctx E0) 3000 111 (ww KY.a (wm 0 (vD KY.a))) (vD KY.a).length=YH:=by kernel_rfl
def Aj:List Int→List Int:=vU (vK E0) KY YH
theorem adE:wh Tryz.prog gG ⟨111,KY,Aj⟩:=xw (xx Bg) 3000 al7 (by kernel_rfl)
def Nz:Ct:=⟨[.agg [kU,kU],.sc kI],[.agg [kU,kU]]⟩
def YI:vo SV :=
 (.leaf (.agg [(.int .u64 (.bin .or .u64 (.bin .shl .u64 (.ite (.bin .geq .i64 aY aZ) ae aa) bf) (.bin .shr .u64 (.bin .shr .u64 (.ite (.bin .geq .i64 bg aZ) ae (.ite (.bin .eql .i64 bg ae) ag aa)) ai) bi))),(.int .u64 (.bin .or .u64 (.bin .shl .u64 (.ite (.bin .geq .i64 bn aZ) ae (.ite (.bin .eql .i64 bn ae) ag aa)) bf) (.bin .shr .u64 (.bin .shr .u64 (.ite (.bin .lss .i64 bq ae) ae (.ite (.bin .eql .i64 bq ae) ag aa)) ai) bi)))]))
theorem al8:wM (ctx E0) 3000 110 (ww Nz.a (wm 0 (vD Nz.a))) (vD Nz.a).length=YI:=by kernel_rfl
def Fw:List Int→List Int:=vU (vK E0) Nz YI
theorem al9:wh Tryz.prog gG ⟨110,Nz,Fw⟩:=xw (xx Bg) 3000 al8 (by kernel_rfl)
def NA:Ct:=⟨[.agg [kU,kU,kU,kU],.sc kI],[.agg [kU,kU,kU,kU]]⟩
def YJ:vo SV :=
 (.leaf (.agg [(.int .u64 (.bin .or .u64 (.bin .shl .u64 (.ite (.bin .lss .i64 (.bin .sub .i64 ae bG) ae) ae aa) bH) (.bin .shr .u64 ae bI))),(.int .u64 (.bin .or .u64 (.bin .shl .u64 (.ite (.bin .lss .i64 bJ ae) ae (.ite (.bin .eql .i64 bJ ae) aa ag)) bH) (.bin .shr .u64 (.bin .shr .u64 (.ite (.bin .lss .i64 (.bin .sub .i64 bJ ai) ae) ae aa) ai) bI))),(.int .u64 (.bin .or .u64 (.bin .shl .u64 (.ite (.bin .lss .i64 bK ae) ae (.ite (.bin .eql .i64 bK ae) aa (.ite (.bin .eql .i64 bK ai) ag az))) bH) (.bin .shr .u64 (.bin .shr .u64 (.ite (.bin .lss .i64 bL ae) ae (.ite (.bin .eql .i64 bL ae) aa ag)) ai) bI))),(.int .u64 (.bin .or .u64 (.bin .shl .u64 (.ite (.bin .lss .i64 bP ae) ae (.ite (.bin .eql .i64 bP ae) aa (.ite (.bin .eql .i64 bP ai) ag (.ite (.bin .eql .i64 bP aZ) az ay)))) bH) (.bin .shr .u64 (.bin .shr .u64 (.ite (.bin .lss .i64 bT ae) ae (.ite (.bin .eql .i64 bT ae) aa (.ite (.bin .eql .i64 bT ai) ag az))) ai) bI)))]))
theorem ama:wM (ctx E0) 3000 151 (ww NA.a (wm 0 (vD NA.a))) (vD NA.a).length=YJ:=by kernel_rfl
def EH:List Int→List Int:=vU (vK E0) NA YJ
theorem amb:wh Tryz.prog gG ⟨151,NA,EH⟩:=xw (xx Bg) 3000 ama (by kernel_rfl)
def NB:Ct:=⟨[.agg [kU,kU,kU,kU],.sc kI],[.agg [kU,kU,kU,kU]]⟩
def YK:vo SV :=
 (.leaf (.agg [(.int .u64 (.bin .or .u64 (.bin .shl .u64 (.ite (.bin .geq .i64 bW cu) ae (.ite (.bin .eql .i64 bW ae) aa (.ite (.bin .eql .i64 bW ai) ag (.ite (.bin .eql .i64 bW aZ) az ay)))) cz) (.bin .shr .u64 (.bin .shr .u64 (.ite (.bin .lss .i64 cO ae) ae (.ite (.bin .eql .i64 cO ae) aa (.ite (.bin .eql .i64 cO ai) ag (.ite (.bin .eql .i64 cO aZ) az ay)))) ai) df))),(.int .u64 (.bin .or .u64 (.bin .shl .u64 (.ite (.bin .geq .i64 dh cu) ae (.ite (.bin .eql .i64 dh ai) ag (.ite (.bin .eql .i64 dh aZ) az ay))) cz) (.bin .shr .u64 (.bin .shr .u64 (.ite (.bin .geq .i64 di cu) ae (.ite (.bin .eql .i64 di ae) aa (.ite (.bin .eql .i64 di ai) ag (.ite (.bin .eql .i64 di aZ) az ay)))) ai) df))),(.int .u64 (.bin .or .u64 (.bin .shl .u64 (.ite (.bin .geq .i64 dw cu) ae (.ite (.bin .eql .i64 dw aZ) az ay)) cz) (.bin .shr .u64 (.bin .shr .u64 (.ite (.bin .geq .i64 dx cu) ae (.ite (.bin .eql .i64 dx ai) ag (.ite (.bin .eql .i64 dx aZ) az ay))) ai) df))),(.int .u64 (.bin .or .u64 (.bin .shl .u64 (.ite (.bin .geq .i64 dz cu) ae ay) cz) (.bin .shr .u64 (.bin .shr .u64 (.ite (.bin .geq .i64 dA cu) ae (.ite (.bin .eql .i64 dA aZ) az ay)) ai) df)))]))
theorem amc:wM (ctx E0) 3000 153 (ww NB.a (wm 0 (vD NB.a))) (vD NB.a).length=YK:=by kernel_rfl
def Ci:List Int→List Int:=vU (vK E0) NB YK
theorem amd:wh Tryz.prog gG ⟨153,NB,Ci⟩:=xw (xx Bg) 3000 amc (by kernel_rfl)
def NC:Ct:=⟨[.agg [kU,kU,kU,kU]],[.sc kI]⟩
def YL:vo SV :=
 (.ite (.bin .neq .u64 ay ae) (.call 273 [ay] 4 1 (.leaf (.int .i64 (.bin .add .i64 (.lit 192) bu)))) (.ite (.bin .neq .u64 az ae) (.call 273 [az] 4 1 (.leaf (.int .i64 (.bin .add .i64 aO bu)))) (.ite (.bin .neq .u64 ag ae) (.call 273 [ag] 4 1 (.leaf (.int .i64 (.bin .add .i64 (.lit 64) bu)))) (.ite (.bin .neq .u64 aa ae) (.call 273 [aa] 4 1 (.leaf (.int .i64 (.bin .add .i64 ae bu)))) (.leaf dC)))))
theorem ame:wM (ctx E0) 3000 240 (ww NC.a (wm 0 (vD NC.a))) (vD NC.a).length=YL:=by kernel_rfl
def ND:List Int→List Int:=vU (vK E0) NC YL
theorem amf:wh Tryz.prog gG ⟨240,NC,ND⟩:=xw (xx Bg) 3000 ame (by kernel_rfl)
def NE:Ct:=⟨[.sc kB],[.agg [kI,kI,kI]]⟩
def YM:vo SV :=
 (.ite dF (.leaf (.agg [dC,dC,dC])) (.ite (.bin .eql .i64 dD ae) (.leaf (.agg [(.int .i64 (.lit 16)),(.int .i64 (.lit 11)),(.int .i64 (.lit 15))])) (.ite (.bin .eql .i64 dD ai) (.leaf (.agg [(.int .i64 (.lit 32)),(.int .i64 (.lit 24)),(.int .i64 (.lit 127))])) (.ite (.bin .eql .i64 dD aZ) (.leaf (.agg [(.int .i64 (.lit 64)),(.int .i64 (.lit 53)),(.int .i64 (.lit 1023))])) (.leaf (.agg [(.int .i64 aO),(.int .i64 (.lit 113)),(.int .i64 (.lit 16383))]))))))
theorem amg:wM (ctx E0) 3000 43 (ww NE.a (wm 0 (vD NE.a))) (vD NE.a).length=YM:=by kernel_rfl
def Gt:List Int→List Int:=vU (vK E0) NE YM
theorem amh:wh Tryz.prog gG ⟨43,NE,Gt⟩:=xw (xx Bg) 3000 amg (by kernel_rfl)
def NF:Ct:=⟨[.sc kB,.sc .bool],[.sc .bool]⟩
def YN:vo SV :=
 (.call 251 [dD,dG,ai,bM] 2 1 (.leaf (.bool dH)))
theorem ami:wM (ctx E0) 3000 255 (ww NF.a (wm 0 (vD NF.a))) (vD NF.a).length=YN:=by kernel_rfl
def NG:List Int→List Int:=vU (vK E0) NF YN
theorem amj:wh Tryz.prog gG ⟨255,NF,NG⟩:=xw (xx Bg) 3000 ami (by kernel_rfl)
def NH:Ct:=⟨[.agg [.bool,kB,kI,kU,kU],.agg [.bool,kB,kI,kU,kU]],[.sc .bool]⟩
def YO:vo SV :=
 (.ite (.bin .geq .i64 (.ite (.bin .eql .u8 dI ae) ae (.ite dK ai dL)) ae) (.leaf (.bool (.bin .geq .i64 (.ite dM ae (.ite dO ai dL)) ae))) av)
theorem amk:wM (ctx E0) 3000 144 (ww NH.a (wm 0 (vD NH.a))) (vD NH.a).length=YO:=by kernel_rfl
def Iq:List Int→List Int:=vU (vK E0) NH YO
theorem aml:wh Tryz.prog gG ⟨144,NH,Iq⟩:=xw (xx Bg) 3000 amk (by kernel_rfl)
def E1:List wO:=⟨50,KX,Ip⟩::⟨52,Nn,Gp⟩::⟨192,Np,CS⟩::⟨227,Nq,Gq⟩::⟨247,Nr,Ns⟩::⟨150,Nt,yT⟩::⟨155,Nu,Fv⟩::⟨241,Nv,Gr⟩::⟨249,Nw,Gs⟩::⟨166,Ny,CU⟩::⟨111,KY,Aj⟩::⟨110,Nz,Fw⟩::⟨151,NA,EH⟩::⟨153,NB,Ci⟩::⟨240,NC,ND⟩::⟨43,NE,Gt⟩::⟨255,NF,NG⟩::⟨144,NH,Iq⟩::E0
theorem Fx:∀ e∈E1,wh Tryz.prog gG e:=List.forall_mem_cons.2 ⟨adD,List.forall_mem_cons.2 ⟨alQ,List.forall_mem_cons.2 ⟨alS,List.forall_mem_cons.2 ⟨alU,List.forall_mem_cons.2 ⟨alW,List.forall_mem_cons.2 ⟨alY,List.forall_mem_cons.2 ⟨al0,List.forall_mem_cons.2 ⟨al2,List.forall_mem_cons.2 ⟨al4,List.forall_mem_cons.2 ⟨al6,List.forall_mem_cons.2 ⟨adE,List.forall_mem_cons.2 ⟨al9,List.forall_mem_cons.2 ⟨amb,List.forall_mem_cons.2 ⟨amd,List.forall_mem_cons.2 ⟨amf,List.forall_mem_cons.2 ⟨amh,List.forall_mem_cons.2 ⟨amj,List.forall_mem_cons.2 ⟨aml,Bg⟩⟩⟩⟩⟩⟩⟩⟩⟩⟩⟩⟩⟩⟩⟩⟩⟩⟩
theorem adF:vK E0 225=KU:=wz (e:=⟨225,_,KU⟩) rfl
theorem adG:vK E0 226=KV:=wz (e:=⟨226,_,KV⟩) rfl
theorem amm:vK E0 268=Nl:=wz (e:=⟨268,_,Nl⟩) rfl
theorem TY:vK E0 273=Ik:=wz (e:=⟨273,_,Ik⟩) rfl
theorem amn:vK E0 251=Il:=wz (e:=⟨251,_,Il⟩) rfl
open Go.RowKit
def NI:Ct:=⟨[.sc kB],[.sc kI]⟩
def YP:vo SV :=
 (.call 43 dP 1 3 (.leaf (.int .i64 dQ)))
theorem amo:wM (ctx E1) 3000 51 (ww NI.a (wm 0 (vD NI.a))) (vD NI.a).length=YP:=by kernel_rfl
def Dr:List Int→List Int:=vU (vK E1) NI YP
theorem amq:wh Tryz.prog gG ⟨51,NI,Dr⟩:=xw (xx Fx) 3000 amo (by kernel_rfl)
def NJ:Ct:=⟨[.sc kB],[.sc kI]⟩
def YQ:vo SV :=
 (.call 43 dP 1 3 (.leaf (.int .i64 aj)))
theorem amr:wM (ctx E1) 3000 53 (ww NJ.a (wm 0 (vD NJ.a))) (vD NJ.a).length=YQ:=by kernel_rfl
def Cj:List Int→List Int:=vU (vK E1) NJ YQ
theorem ams:wh Tryz.prog gG ⟨53,NJ,Cj⟩:=xw (xx Fx) 3000 amr (by kernel_rfl)
def NK:Ct:=⟨[.sc kB],[.sc kI]⟩
def YR:vo SV :=
 (.call 43 dP 1 3 (.leaf (.int .i64 dR)))
theorem amt:wM (ctx E1) 3000 26 (ww NK.a (wm 0 (vD NK.a))) (vD NK.a).length=YR:=by kernel_rfl
def NL:List Int→List Int:=vU (vK E1) NK YR
theorem amu:wh Tryz.prog gG ⟨26,NK,NL⟩:=xw (xx Fx) 3000 amt (by kernel_rfl)
def NM:Ct:=⟨[.agg [kU,kU],.sc kI],[.agg [kU,kU]]⟩
def YS:vo SV :=
 (.call 111 [aa,ag,dS] 3 2 (.call 110 [ay,aC,dS] 5 2 dW))
theorem amv:wM (ctx E1) 3000 54 (ww NM.a (wm 0 (vD NM.a))) (vD NM.a).length=YS:=by kernel_rfl
def Ir:List Int→List Int:=vU (vK E1) NM YS
theorem amw:wh Tryz.prog gG ⟨54,NM,Ir⟩:=xw (xx Fx) 3000 amv (by kernel_rfl)
def KZ:Ct:=⟨[.agg [kU,kU],.agg [kU,kU]],[.agg [kU,kU,kU,kU]]⟩
def YT:vo SV :=
 (.call 247 [aa,az] 4 2 (.call 247 [ag,ay] 6 2 (.call 150 dY 8 4 (.call 247 [aa,ay] 12 2 (.call 247 [ag,az] 14 2 (.call 160 [dZ,ed,eD,eF,ae,eG,eH,ae] 16 5 (.call 160 [eO,eQ,eT,eU,ae,eX,eY,ae] 21 5 (.leaf (.agg [fe,fq,fw,(.int .u64 fC)])))))))))
theorem amx:wM (ctx E1) 3000 207 (ww KZ.a (wm 0 (vD KZ.a))) (vD KZ.a).length=YT:=by kernel_rfl
def K9:List Int→List Int:=vU (vK E1) KZ YT
theorem adH:wh Tryz.prog gG ⟨207,KZ,K9⟩:=xw (xx Fx) 3000 amx (by kernel_rfl)
def NN:Ct:=⟨[.agg [kU,kU]],[.agg [kU,kU],.sc kI]⟩
def YU:vo SV :=
 (.call 150 [aa,ag,ae,ae] 2 4 (.call 240 [az,ay,aC,dU] 6 1 (.ite (.bin .eql .i64 fD ae) (.call 241 [az,ay,aC,dU] 7 2 (.leaf (.tup [(.agg [fF,fG]),dC]))) (.call 151 [az,ay,aC,dU,fH] 7 4 (.call 241 [dX,dZ,ed,eD] 11 2 (.leaf (.tup [(.agg [fI,fJ]),(.int .i64 fH)])))))))
theorem amy:wM (ctx E1) 3000 193 (ww NN.a (wm 0 (vD NN.a))) (vD NN.a).length=YU:=by kernel_rfl
def NP:List Int→List Int:=vU (vK E1) NN YU
theorem amz:wh Tryz.prog gG ⟨193,NN,NP⟩:=xw (xx Fx) 3000 amy (by kernel_rfl)
def NQ:Ct:=⟨[.agg [kU,kU,kU,kU],.sc kI],[.sc .bool]⟩
def YV:vo SV :=
 (.call 153 fK 5 4 (.call 151 [dU,aA,dX,dZ,bu] 9 4 (.leaf (.bool (.not (.and (.bin .eql .u64 ed aa) (.and (.bin .eql .u64 eD ag) (.and (.bin .eql .u64 eF az) (.and (.bin .eql .u64 eH ay) ai)))))))))
theorem amA:wM (ctx E1) 3000 256 (ww NQ.a (wm 0 (vD NQ.a))) (vD NQ.a).length=YV:=by kernel_rfl
def Iu:List Int→List Int:=vU (vK E1) NQ YV
theorem amB:wh Tryz.prog gG ⟨256,NQ,Iu⟩:=xw (xx Fx) 3000 amA (by kernel_rfl)
def NR:Ct:=⟨[.agg [kU,kU,kU,kU]],[.agg [kU,kU,kU,kU],.sc kI]⟩
def YW:vo SV :=
 (.call 240 fM 4 1 (.ite fO (.leaf (.tup [(.agg [aK,aJ,aG,aH]),dC])) (.call 151 [aa,ag,az,ay,fQ] 5 4 (.leaf (.tup [fT,(.int .i64 fQ)])))))
theorem amC:wM (ctx E1) 3000 248 (ww NR.a (wm 0 (vD NR.a))) (vD NR.a).length=YW:=by kernel_rfl
def NS:List Int→List Int:=vU (vK E1) NR YW
theorem amD:wh Tryz.prog gG ⟨248,NR,NS⟩:=xw (xx Fx) 3000 amC (by kernel_rfl)
def JB:Ct:=⟨[.agg [kU,kU],.sc kU,.agg [kU,kU]],[.agg [kU,kU],.sc .bool]⟩
def YX:vo SV :=
 (.call 192 [aa,ag,aa,ag] 5 3 (.call 227 [dU,(.bin .or .u64 aA az),ay,aC] 8 3 (.ite fV gp (.ite (.not gq) gp (.leaf (.tup [(.agg [dV,(.int .u64 (.bin .or .u64 aA az))]),au]))))))
theorem amE:wM (ctx E1) 3000 217 (ww JB.a (wm 0 (vD JB.a))) (vD JB.a).length=YX:=by kernel_rfl
def La:List Int→List Int:=vU (vK E1) JB YX
theorem TZ:wh Tryz.prog gG ⟨217,JB,La⟩:=xw (xx Fx) 3000 amE (by kernel_rfl)
def Lb:Ct:=⟨[.agg [kU,kU],.agg [kU,kU]],[.sc kI]⟩
def YY:vo SV :=
 (.leaf (.int .i64 (.ite (.bin .neq .i64 gz ae) gz (.ite (.bin .neq .i64 gD ae) gD ae))))
theorem amF:wM (ctx E1) 3000 159 (ww Lb.a (wm 0 (vD Lb.a))) (vD Lb.a).length=YY:=by kernel_rfl
def EI:List Int→List Int:=vU (vK E1) Lb YY
theorem adI:wh Tryz.prog gG ⟨159,Lb,EI⟩:=xw (xx Fx) 3000 amF (by kernel_rfl)
def E2:List wO:=⟨51,NI,Dr⟩::⟨53,NJ,Cj⟩::⟨26,NK,NL⟩::⟨54,NM,Ir⟩::⟨207,KZ,K9⟩::⟨193,NN,NP⟩::⟨256,NQ,Iu⟩::⟨248,NR,NS⟩::⟨217,JB,La⟩::⟨159,Lb,EI⟩::E1
theorem Lc:∀ e∈E2,wh Tryz.prog gG e:=List.forall_mem_cons.2 ⟨amq,List.forall_mem_cons.2 ⟨ams,List.forall_mem_cons.2 ⟨amu,List.forall_mem_cons.2 ⟨amw,List.forall_mem_cons.2 ⟨adH,List.forall_mem_cons.2 ⟨amz,List.forall_mem_cons.2 ⟨amB,List.forall_mem_cons.2 ⟨amD,List.forall_mem_cons.2 ⟨TZ,List.forall_mem_cons.2 ⟨adI,Fx⟩⟩⟩⟩⟩⟩⟩⟩⟩⟩
theorem YZ:vK E1 43=Gt:=wz (e:=⟨43,_,Gt⟩) rfl
theorem amG:vK E1 111=Aj:=wz (e:=⟨111,_,Aj⟩) rfl
theorem amH:vK E1 110=Fw:=wz (e:=⟨110,_,Fw⟩) rfl
theorem T9:vK E1 247=Ns:=wz (e:=⟨247,_,Ns⟩) rfl
theorem adJ:vK E1 150=yT:=wz (e:=⟨150,_,yT⟩) rfl
theorem adK:vK E1 160=EF:=wz (e:=⟨160,_,EF⟩) rfl
theorem adL:vK E1 240=ND:=wz (e:=⟨240,_,ND⟩) rfl
theorem adM:vK E1 241=Gr:=wz (e:=⟨241,_,Gr⟩) rfl
theorem Y0:vK E1 151=EH:=wz (e:=⟨151,_,EH⟩) rfl
theorem amI:vK E1 153=Ci:=wz (e:=⟨153,_,Ci⟩) rfl
theorem amJ:vK E1 192=CS:=wz (e:=⟨192,_,CS⟩) rfl
theorem amK:vK E1 227=Gq:=wz (e:=⟨227,_,Gq⟩) rfl
open Go.RowKit
def NT:Ct:=⟨[.sc kB,.agg [kU,kU]],[.agg [kU,kU]]⟩
def Y1:vo SV :=
 (.call 26 dP 3 1 (.call 54 [ag,az,dQ] 4 2 (.leaf (.agg [aD,dV]))))
theorem amL:wM (ctx E2) 3000 35 (ww NT.a (wm 0 (vD NT.a))) (vD NT.a).length=Y1:=by kernel_rfl
def Dt:List Int→List Int:=vU (vK E2) NT Y1
theorem amM:wh Tryz.prog gG ⟨35,NT,Dt⟩:=xw (xx Lc) 3000 amL (by kernel_rfl)
def NU:Ct:=⟨[.sc kB,.sc .bool,.sc kI,.agg [kU,kU]],[.agg [kU,kU]]⟩
def Y2:vo SV :=
 (.call 43 dP 5 3 (.ite gH (.leaf gI) (.ite ak gV (.ite (.bin .gtr .i64 aj (.lit 1048576)) gV (.call 54 [ae,(.conv .u64 aj),gJ] 8 2 gU)))))
theorem amN:wM (ctx E2) 3000 198 (ww NU.a (wm 0 (vD NU.a))) (vD NU.a).length=Y2:=by kernel_rfl
def Gu:List Int→List Int:=vU (vK E2) NU Y2
theorem amO:wh Tryz.prog gG ⟨198,NU,Gu⟩:=xw (xx Lc) 3000 amN (by kernel_rfl)
def NV:Ct:=⟨[.sc kB,.sc kI],[.sc .bool]⟩
def Y3:vo SV :=
 (.ite dE (.call 51 dP 2 1 (.leaf (.bool (.bin .gtr .i64 dR aj)))) av)
theorem amP:wM (ctx E2) 3000 212 (ww NV.a (wm 0 (vD NV.a))) (vD NV.a).length=Y3:=by kernel_rfl
def NW:List Int→List Int:=vU (vK E2) NV Y3
theorem amQ:wh Tryz.prog gG ⟨212,NV,NW⟩:=xw (xx Lc) 3000 amP (by kernel_rfl)
def NY:Ct:=⟨[.agg [kU,kU,kU,kU],.sc kI],[.agg [kU,kU,kU,kU]]⟩
def Y4:vo SV :=
 (.call 153 fK 5 4 (.call 256 fK 9 1 (.ite gW (.leaf (.agg [(.int .u64 (.bin .or .u64 dU ai)),aB,fF,fG])) (.leaf fT))))
theorem amR:wM (ctx E2) 3000 214 (ww NY.a (wm 0 (vD NY.a))) (vD NY.a).length=Y4:=by kernel_rfl
def BO:List Int→List Int:=vU (vK E2) NY Y4
theorem amS:wh Tryz.prog gG ⟨214,NY,BO⟩:=xw (xx Lc) 3000 amR (by kernel_rfl)
def N7:Ct:=⟨[.agg [kU,kU,kU,kU],.sc kI],[.sc kB]⟩
def Y5:vo SV :=
 (.ite gX (.leaf gY) (.ite gZ (.leaf gY) (.call 256 [aa,ag,az,ay,ic] 5 1 (.leaf (.int .u8 (.ite (.ite (.bin .eql .i64 (.bin .shr .i64 ic aR) aZ) (.bin .eql .u64 (.bin .and .u64 (.bin .shr .u64 az ig) ai) ai) (.bin .eql .u64 (.bin .and .u64 (.bin .shr .u64 ay ig) ai) ai)) (.ite ik bM aZ) (.ite ik ai ae)))))))
theorem amT:wM (ctx E2) 3000 250 (ww N7.a (wm 0 (vD N7.a))) (vD N7.a).length=Y5:=by kernel_rfl
def N8:List Int→List Int:=vU (vK E2) N7 Y5
theorem amU:wh Tryz.prog gG ⟨250,N7,N8⟩:=xw (xx Lc) 3000 amT (by kernel_rfl)
def Iw:Ct:=⟨[.agg [.bool,kB,kI,kU,kU],.agg [.bool,kB,kI,kU,kU]],[.sc kI,.agg [kU,kU,kU,kU]]⟩
def Y6:vo SV :=
 (.ite (.bin .neq .u8 dI ai) (.ite (.bin .neq .u8 dI aZ) il iD) iD)
theorem amV:wM (ctx E2) 3000 146 (ww Iw.a (wm 0 (vD Iw.a))) (vD Iw.a).length=Y6:=by kernel_rfl
def Iy:List Int→List Int:=vU (vK E2) Iw Y6
theorem amW:wh Tryz.prog gG ⟨146,Iw,Iy⟩:=xw (xx Lc) 3000 amV (by kernel_rfl)
def E3:List wO:=⟨35,NT,Dt⟩::⟨198,NU,Gu⟩::⟨212,NV,NW⟩::⟨214,NY,BO⟩::⟨250,N7,N8⟩::⟨146,Iw,Iy⟩::E2
theorem JC:∀ e∈E3,wh Tryz.prog gG e:=List.forall_mem_cons.2 ⟨amM,List.forall_mem_cons.2 ⟨amO,List.forall_mem_cons.2 ⟨amQ,List.forall_mem_cons.2 ⟨amS,List.forall_mem_cons.2 ⟨amU,List.forall_mem_cons.2 ⟨amW,Lc⟩⟩⟩⟩⟩⟩
theorem amX:vK E2 26=NL:=wz (e:=⟨26,_,NL⟩) rfl
theorem QS:vK E2 54=Ir:=wz (e:=⟨54,_,Ir⟩) rfl
theorem amY:vK E2 43=Gt:=wz (e:=⟨43,_,Gt⟩) rfl
theorem N9:vK E2 111=Aj:=wz (e:=⟨111,_,Aj⟩) rfl
theorem Oa:vK E2 192=CS:=wz (e:=⟨192,_,CS⟩) rfl
theorem amZ:vK E2 51=Dr:=wz (e:=⟨51,_,Dr⟩) rfl
theorem am0:vK E2 153=Ci:=wz (e:=⟨153,_,Ci⟩) rfl
theorem adN:vK E2 256=Iu:=wz (e:=⟨256,_,Iu⟩) rfl
theorem am1:vK E2 207=K9:=wz (e:=⟨207,_,K9⟩) rfl
open Go.RowKit
def Ob:Ct:=⟨[.sc kB,.sc .bool],[.agg [kU,kU]]⟩
def Y7:vo SV :=
 (.call 198 [dD,dG,ae,ae,ae] 2 2 (.leaf (.agg [aG,aH])))
theorem am2:wM (ctx E3) 3000 152 (ww Ob.a (wm 0 (vD Ob.a))) (vD Ob.a).length=Y7:=by kernel_rfl
def EJ:List Int→List Int:=vU (vK E3) Ob Y7
theorem am3:wh Tryz.prog gG ⟨152,Ob,EJ⟩:=xw (xx JC) 3000 am2 (by kernel_rfl)
def Oc:Ct:=⟨[.sc kB,.sc .bool],[.agg [kU,kU]]⟩
def Y8:vo SV :=
 (.call 51 dP 2 1 (.call 198 [dD,dG,(.bin .add .i64 iE ai),ae,ae] 3 2 iF))
theorem am4:wM (ctx E3) 3000 141 (ww Oc.a (wm 0 (vD Oc.a))) (vD Oc.a).length=Y8:=by kernel_rfl
def AR:List Int→List Int:=vU (vK E3) Oc Y8
theorem am5:wh Tryz.prog gG ⟨141,Oc,AR⟩:=xw (xx JC) 3000 am4 (by kernel_rfl)
def Od:Ct:=⟨[.sc kB,.sc .bool],[.agg [kU,kU]]⟩
def Y9:vo SV :=
 (.call 51 dP 2 1 (.call 198 [dD,dG,iE,iG,iG] 3 2 iF))
theorem am6:wM (ctx E3) 3000 253 (ww Od.a (wm 0 (vD Od.a))) (vD Od.a).length=Y9:=by kernel_rfl
def Oe:List Int→List Int:=vU (vK E3) Od Y9
theorem am7:wh Tryz.prog gG ⟨253,Od,Oe⟩:=xw (xx JC) 3000 am6 (by kernel_rfl)
def Og:Ct:=⟨[.sc kB,.agg [kU,kU]],[.sc .bool,.sc kI,.agg [kU,kU]]⟩
def Za:vo SV :=
 (.call 43 dP 3 3 (.ite (.bin .eql .i64 dQ ae) (.leaf (.tup [au,dC,gI])) (.call 35 iH 6 2 (.call 110 [aA,dX,iI] 8 2 (.call 52 [ag,az,(.bin .sub .i64 dQ ai)] 10 1 (.call 54 [dZ,ed,(.bin .sub .i64 dQ bu)] 11 2 (.call 54 [ag,az,iI] 13 2 (.leaf (.tup [(.bool gq),(.int .i64 (.conv .i64 eH)),(.agg [iy,gQ])])))))))))
theorem am8:wM (ctx E3) 3000 49 (ww Og.a (wm 0 (vD Og.a))) (vD Og.a).length=Za:=by kernel_rfl
def Fy:List Int→List Int:=vU (vK E3) Og Za
theorem am9:wh Tryz.prog gG ⟨49,Og,Fy⟩:=xw (xx JC) 3000 am8 (by kernel_rfl)
def Oh:Ct:=⟨[.sc kB,.sc .bool,.sc kI,.agg [kU,kU]],[.agg [kU,kU]]⟩
def Zb:vo SV :=
 (.ite (.bin .eql .i64 aj ae) (.call 53 dP 5 1 (.call 52 [ay,aC,gL] 6 1 (.ite iJ (.call 198 [dD,dG,ai,ay,aC] 7 2 iK) (.call 198 [dD,dG,aj,ay,aC] 7 2 iK)))) (.call 198 [dD,dG,aj,ay,aC] 5 2 dW))
theorem ana:wM (ctx E3) 3000 215 (ww Oh.a (wm 0 (vD Oh.a))) (vD Oh.a).length=Zb:=by kernel_rfl
def Gv:List Int→List Int:=vU (vK E3) Oh Zb
theorem anb:wh Tryz.prog gG ⟨215,Oh,Gv⟩:=xw (xx JC) 3000 ana (by kernel_rfl)
def Oi:Ct:=⟨[.sc kB],[.agg [kU,kU]]⟩
def Zc:vo SV :=
 (.call 51 dP 1 1 (.call 53 dP 2 1 (.call 111 [ae,ai,(.bin .sub .i64 aj aZ)] 3 2 (.call 198 [dD,ae,(.bin .add .i64 (.bin .mul .i64 aZ dR) ai),ay,aC] 5 2 dW))))
theorem anc:wM (ctx E3) 3000 196 (ww Oi.a (wm 0 (vD Oi.a))) (vD Oi.a).length=Zc:=by kernel_rfl
def EK:List Int→List Int:=vU (vK E3) Oi Zc
theorem ane:wh Tryz.prog gG ⟨196,Oi,EK⟩:=xw (xx JC) 3000 anc (by kernel_rfl)
def Oj:Ct:=⟨[.agg [kU,kU,kU,kU],.sc kI,.sc kB,.sc .bool],[.agg [kU,kU],.sc .bool]⟩
def Zd:vo SV :=
 (.ite gX iL (.ite gZ iL (.ite (.not (.bin .leq .u8 (.var kB 5) cu)) iL (.call 153 [aa,ag,az,ay,fQ] 7 4 (.call 249 [dX,dZ,ed,eD] 11 2 (.call 250 fK 13 1 (.call 251 [(.var kB 5),iJ,(.bin .eql .u64 (.bin .and .u64 eH ai) ai),iM] 14 1 (.ite iN (.call 192 [eF,eH,ae,ai] 15 3 (.leaf (.tup [(.agg [gT,iO]),iQ]))) (.leaf (.tup [(.agg [fI,fJ]),iQ]))))))))))
theorem anf:wM (ctx E3) 3000 210 (ww Oj.a (wm 0 (vD Oj.a))) (vD Oj.a).length=Zd:=by kernel_rfl
def Du:List Int→List Int:=vU (vK E3) Oj Zd
theorem ang:wh Tryz.prog gG ⟨210,Oj,Du⟩:=xw (xx JC) 3000 anf (by kernel_rfl)
def E4:List wO:=⟨152,Ob,EJ⟩::⟨141,Oc,AR⟩::⟨253,Od,Oe⟩::⟨49,Og,Fy⟩::⟨215,Oh,Gv⟩::⟨196,Oi,EK⟩::⟨210,Oj,Du⟩::E3
theorem QT:∀ e∈E4,wh Tryz.prog gG e:=List.forall_mem_cons.2 ⟨am3,List.forall_mem_cons.2 ⟨am5,List.forall_mem_cons.2 ⟨am7,List.forall_mem_cons.2 ⟨am9,List.forall_mem_cons.2 ⟨anb,List.forall_mem_cons.2 ⟨ane,List.forall_mem_cons.2 ⟨ang,JC⟩⟩⟩⟩⟩⟩⟩
theorem JD:vK E3 198=Gu:=wz (e:=⟨198,_,Gu⟩) rfl
theorem Ze:vK E3 51=Dr:=wz (e:=⟨51,_,Dr⟩) rfl
theorem anh:vK E3 43=Gt:=wz (e:=⟨43,_,Gt⟩) rfl
theorem ani:vK E3 35=Dt:=wz (e:=⟨35,_,Dt⟩) rfl
theorem anj:vK E3 110=Fw:=wz (e:=⟨110,_,Fw⟩) rfl
theorem adO:vK E3 52=Gp:=wz (e:=⟨52,_,Gp⟩) rfl
theorem adP:vK E3 54=Ir:=wz (e:=⟨54,_,Ir⟩) rfl
theorem adQ:vK E3 53=Cj:=wz (e:=⟨53,_,Cj⟩) rfl
theorem adR:vK E3 111=Aj:=wz (e:=⟨111,_,Aj⟩) rfl
theorem ank:vK E3 153=Ci:=wz (e:=⟨153,_,Ci⟩) rfl
theorem anl:vK E3 249=Gs:=wz (e:=⟨249,_,Gs⟩) rfl
theorem anm:vK E3 250=N8:=wz (e:=⟨250,_,N8⟩) rfl
theorem ann:vK E3 251=Il:=wz (e:=⟨251,_,Il⟩) rfl
theorem ano:vK E3 192=CS:=wz (e:=⟨192,_,CS⟩) rfl
open Go.RowKit
def Ol:Ct:=⟨[.sc kB,.agg [kU,kU]],[.sc kB,.sc .bool]⟩
def Zf:vo SV :=
 (.ite dF (.leaf (.tup [gY,au])) (.call 49 iH 3 4 (.call 50 [dU,aA] 7 1 (.call 51 dP 8 1 (.ite fO (.ite fV (.leaf (.tup [gY,iT])) (.leaf (.tup [iU,iT]))) (.ite (.bin .lss .i64 bu (.bin .add .i64 (.bin .mul .i64 aZ (.var kI 8)) ai)) (.leaf (.tup [iV,iT])) (.ite fV (.leaf (.tup [iW,iT])) (.call 53 dP 9 1 (.call 52 [dU,aA,(.bin .sub .i64 iX aZ)] 10 1 (.ite gq (.leaf (.tup [(.int .u8 cu),iT])) (.leaf (.tup [(.int .u8 (.lit 5)),iT]))))))))))))
theorem anp:wM (ctx E4) 3000 33 (ww Ol.a (wm 0 (vD Ol.a))) (vD Ol.a).length=Zf:=by kernel_rfl
def Ld:List Int→List Int:=vU (vK E4) Ol Zf
theorem anq:wh Tryz.prog gG ⟨33,Ol,Ld⟩:=xw (xx QT) 3000 anp (by kernel_rfl)
def Om:Ct:=⟨[.sc kB,.sc kB,.sc .bool],[.agg [kU,kU,kB]]⟩
def Zg:vo SV :=
 (.ite dF iY (.ite iZ iY (.call 255 [dI,dH] 3 1 (.ite iR (.call 141 [dD,dH] 4 2 ja) (.call 253 [dD,dH] 4 2 ja)))))
theorem anr:wM (ctx E4) 3000 213 (ww Om.a (wm 0 (vD Om.a))) (vD Om.a).length=Zg:=by kernel_rfl
def Le:List Int→List Int:=vU (vK E4) Om Zg
theorem ant:wh Tryz.prog gG ⟨213,Om,Le⟩:=xw (xx QT) 3000 anr (by kernel_rfl)
def Oo:Ct:=⟨[.sc kB,.agg [kU,kU]],[.agg [kU,kU]]⟩
def Zh:vo SV :=
 (.call 196 dP 3 2 (.call 49 jb 5 4 (.leaf (.agg [(.int .u64 (.bin .or .u64 ag dX)),(.int .u64 (.bin .or .u64 az dZ))]))))
theorem anu:wM (ctx E4) 3000 231 (ww Oo.a (wm 0 (vD Oo.a))) (vD Oo.a).length=Zh:=by kernel_rfl
def Oq:List Int→List Int:=vU (vK E4) Oo Zh
theorem anv:wh Tryz.prog gG ⟨231,Oo,Oq⟩:=xw (xx QT) 3000 anu (by kernel_rfl)
def Ot:Ct:=⟨[.sc kB,.agg [kU,kU]],[.agg [kU,kU]]⟩
def Zi:vo SV :=
 (.call 49 iH 3 4 (.call 198 [dD,(.not iR),bu,dU,aA] 7 2 iK))
theorem anw:wM (ctx E4) 3000 143 (ww Ot.a (wm 0 (vD Ot.a))) (vD Ot.a).length=Zi:=by kernel_rfl
def Lf:List Int→List Int:=vU (vK E4) Ot Zi
theorem anx:wh Tryz.prog gG ⟨143,Ot,Lf⟩:=xw (xx QT) 3000 anw (by kernel_rfl)
def E5:List wO:=⟨33,Ol,Ld⟩::⟨213,Om,Le⟩::⟨231,Oo,Oq⟩::⟨143,Ot,Lf⟩::E4
theorem QU:∀ e∈E5,wh Tryz.prog gG e:=List.forall_mem_cons.2 ⟨anq,List.forall_mem_cons.2 ⟨ant,List.forall_mem_cons.2 ⟨anv,List.forall_mem_cons.2 ⟨anx,QT⟩⟩⟩⟩
theorem Zj:vK E4 49=Fy:=wz (e:=⟨49,_,Fy⟩) rfl
theorem anz:vK E4 50=Ip:=wz (e:=⟨50,_,Ip⟩) rfl
theorem anA:vK E4 51=Dr:=wz (e:=⟨51,_,Dr⟩) rfl
theorem anB:vK E4 53=Cj:=wz (e:=⟨53,_,Cj⟩) rfl
theorem anC:vK E4 52=Gp:=wz (e:=⟨52,_,Gp⟩) rfl
theorem anD:vK E4 255=NG:=wz (e:=⟨255,_,NG⟩) rfl
theorem anE:vK E4 141=AR:=wz (e:=⟨141,_,AR⟩) rfl
theorem anF:vK E4 253=Oe:=wz (e:=⟨253,_,Oe⟩) rfl
theorem anG:vK E4 196=EK:=wz (e:=⟨196,_,EK⟩) rfl
theorem adS:vK E4 198=Gu:=wz (e:=⟨198,_,Gu⟩) rfl
open Go.RowKit
def Ou:Ct:=⟨[.sc kB,.agg [kU,kU]],[.sc .bool]⟩
def Zk:vo SV :=
 (.call 33 iH 3 2 (.leaf (.bool (.bin .geq .u8 jc cu))))
theorem anH:wM (ctx E5) 3000 14 (ww Ou.a (wm 0 (vD Ou.a))) (vD Ou.a).length=Zk:=by kernel_rfl
def yR:List Int→List Int:=vU (vK E5) Ou Zk
theorem anI:wh Tryz.prog gG ⟨14,Ou,yR⟩:=xw (xx QU) 3000 anH (by kernel_rfl)
def Ov:Ct:=⟨[.sc kB,.agg [kU,kU]],[.agg [.bool,kB,kI,kU,kU]]⟩
def Zm:vo SV :=
 (.call 33 iH 3 2 (.call 53 dP 5 1 (.call 51 dP 6 1 (.call 49 iH 7 4 (.ite (.bin .eql .u8 jc aZ) (.call 111 [ed,eD,(.bin .sub .i64 aO gF)] 11 2 (.call 192 [eF,eH,jd,ae] 13 3 (.leaf (.agg [(.bool je),jf,(.int .i64 (.bin .sub .i64 (.var kI 8) fD)),iy,gQ])))) (.ite (.bin .eql .u8 jc ai) (.call 193 [ed,eD] 11 3 (.leaf (.agg [(.bool je),jf,(.int .i64 (.bin .sub .i64 (.bin .sub .i64 (.bin .add .i64 (.bin .sub .i64 ai fD) aO) gF) (.var kI 13))),fI,fJ]))) (.leaf (.agg [(.bool je),jf,dC,aL,aL]))))))))
theorem anJ:wM (ctx E5) 3000 139 (ww Ov.a (wm 0 (vD Ov.a))) (vD Ov.a).length=Zm:=by kernel_rfl
def yA:List Int→List Int:=vU (vK E5) Ov Zm
theorem anK:wh Tryz.prog gG ⟨139,Ov,yA⟩:=xw (xx QU) 3000 anJ (by kernel_rfl)
def Ow:Ct:=⟨[.sc kB,.agg [kB,.bool],.sc .bool,.sc kI,.agg [kU,kU,kU,kU]],[.agg [kU,kU,kB]]⟩
def Zn:vo SV :=
 (.ite dF iY (.ite iZ iY (.call 166 [dU,aA,dX,dZ] 9 1 (.ite gW (.call 152 [dD,iR] 10 2 (.leaf (.agg [iw,fI,gY]))) (.call 248 [dU,aA,dX,dZ] 10 5 (.call 53 dP 15 1 (.call 51 dP 16 1 (.call 210 [eD,eF,eH,eG,jg,dI,iR] 17 3 (.call 52 [eQ,eT,jg] 20 1 (.ite jh (.call 212 [dD,jq] 21 1 (.ite jr jv (.ite jA (.ite (.not dH) jM (.call 214 jB 22 4 (.call 210 jD 26 3 (.call 215 [dD,iR,ae,jE,jF] 29 2 (.ite (.var .bool 28) (.ite (.bin .lss .i64 jq jw) jK (.leaf (.agg [jH,jJ,jN]))) jL))))) (.call 215 [dD,iR,(.bin .add .i64 (.bin .sub .i64 jq jw) ai),eQ,eT] 22 2 jQ)))) (.call 212 [dD,jo] 21 1 (.ite jr jv (.ite jA (.ite (.not dH) jM jM) (.call 215 [dD,iR,(.bin .add .i64 (.bin .sub .i64 jo jw) ai),eQ,eT] 22 2 jQ))))))))))))))
theorem anL:wM (ctx E5) 3000 147 (ww Ow.a (wm 0 (vD Ow.a))) (vD Ow.a).length=Zn:=by kernel_rfl
def yu:List Int→List Int:=vU (vK E5) Ow Zn
theorem anM:wh Tryz.prog gG ⟨147,Ow,yu⟩:=xw (xx QU) 3000 anL (by kernel_rfl)
def Ox:Ct:=⟨[.sc kB,.agg [kU,kU]],[.sc .bool]⟩
def Zo:vo SV :=
 (.call 33 iH 3 2 (.leaf (.bool (.bin .eql .u8 jc (.lit 5)))))
theorem anN:wM (ctx E5) 3000 15 (ww Ox.a (wm 0 (vD Ox.a))) (vD Ox.a).length=Zo:=by kernel_rfl
def zH:List Int→List Int:=vU (vK E5) Ox Zo
theorem anO:wh Tryz.prog gG ⟨15,Ox,zH⟩:=xw (xx QU) 3000 anN (by kernel_rfl)
def E6:List wO:=⟨14,Ou,yR⟩::⟨139,Ov,yA⟩::⟨147,Ow,yu⟩::⟨15,Ox,zH⟩::E5
theorem adT:∀ e∈E6,wh Tryz.prog gG e:=List.forall_mem_cons.2 ⟨anI,List.forall_mem_cons.2 ⟨anK,List.forall_mem_cons.2 ⟨anM,List.forall_mem_cons.2 ⟨anO,QU⟩⟩⟩⟩
theorem Zp:vK E5 33=Ld:=wz (e:=⟨33,_,Ld⟩) rfl
theorem adU:vK E5 53=Cj:=wz (e:=⟨53,_,Cj⟩) rfl
theorem adV:vK E5 51=Dr:=wz (e:=⟨51,_,Dr⟩) rfl
theorem anP:vK E5 49=Fy:=wz (e:=⟨49,_,Fy⟩) rfl
theorem anQ:vK E5 111=Aj:=wz (e:=⟨111,_,Aj⟩) rfl
theorem anR:vK E5 192=CS:=wz (e:=⟨192,_,CS⟩) rfl
theorem anS:vK E5 193=NP:=wz (e:=⟨193,_,NP⟩) rfl
theorem anT:vK E5 166=CU:=wz (e:=⟨166,_,CU⟩) rfl
theorem anU:vK E5 152=EJ:=wz (e:=⟨152,_,EJ⟩) rfl
theorem anV:vK E5 248=NS:=wz (e:=⟨248,_,NS⟩) rfl
theorem QV:vK E5 210=Du:=wz (e:=⟨210,_,Du⟩) rfl
theorem anW:vK E5 52=Gp:=wz (e:=⟨52,_,Gp⟩) rfl
theorem adW:vK E5 212=NW:=wz (e:=⟨212,_,NW⟩) rfl
theorem adX:vK E5 213=Le:=wz (e:=⟨213,_,Le⟩) rfl
theorem Ua:vK E5 214=BO:=wz (e:=⟨214,_,BO⟩) rfl
theorem Oy:vK E5 215=Gv:=wz (e:=⟨215,_,Gv⟩) rfl
open Go.RowKit
def Oz:Ct:=⟨[.sc kB,.agg [kU,kU]],[.agg [kU,kU]]⟩
def Zq:vo SV :=
 (.call 35 iH 3 2 (.call 14 jb 5 1 (.ite ik (.call 53 dP 6 1 (.call 111 [ae,ai,(.bin .sub .i64 fD aZ)] 7 2 (.leaf (.agg [(.int .u64 (.bin .or .u64 ay dX)),(.int .u64 (.bin .or .u64 aC dZ))])))) iF)))
theorem anX:wM (ctx E6) 3000 197 (ww Oz.a (wm 0 (vD Oz.a))) (vD Oz.a).length=Zq:=by kernel_rfl
def Fz:List Int→List Int:=vU (vK E6) Oz Zq
theorem anY:wh Tryz.prog gG ⟨197,Oz,Fz⟩:=xw (xx adT) 3000 anX (by kernel_rfl)
def E7:List wO:=⟨197,Oz,Fz⟩::E6
theorem Ub:∀ e∈E7,wh Tryz.prog gG e:=List.forall_mem_cons.2 ⟨anY,adT⟩
theorem anZ:vK E6 35=Dt:=wz (e:=⟨35,_,Dt⟩) rfl
theorem an0:vK E6 14=yR:=wz (e:=⟨14,_,yR⟩) rfl
theorem an1:vK E6 53=Cj:=wz (e:=⟨53,_,Cj⟩) rfl
theorem an2:vK E6 111=Aj:=wz (e:=⟨111,_,Aj⟩) rfl
open Go.RowKit
def OA:Ct:=⟨[.sc kB,.agg [kB,.bool],.agg [kU,kU],.agg [kU,kU]],[.agg [kU,kU,kB]]⟩
def Zr:vo SV :=
 (.ite dF iY (.ite iZ iY (.call 139 jb 7 5 (.call 139 jR 12 5 (.call 144 jU 17 1 (.call 14 jb 18 1 (.ite jV (.call 196 dP 19 2 (.call 197 jb 21 2 (.ite jW jX (.call 15 jb 23 1 (.ite jY jX (.call 15 jR 24 1 (.ite jZ jX j4))))))) (.call 14 jR 19 1 (.ite jO (.call 196 dP 20 2 (.call 197 jR 22 2 (.ite jW j5 (.call 15 jb 24 1 (.ite jZ j5 (.call 15 jR 25 1 (.ite j6 j5 jP))))))) (.ite kg (.ite (.bin .geq .i64 (.ite ku ae (.ite kv ai dL)) ae) (.call 141 [dD,kw] 20 2 ky) (.call 146 jU 20 5 (.call 147 [dD,dI,dH,kw,(.var kI 20),eZ,fo,fu,fC] 25 3 (.leaf (.agg [(.int .u64 jC),kz,(.int .u8 (.var kB 27))]))))) (.call 196 dP 20 2 (.leaf (.agg [gP,fe,iU])))))))))))))
theorem an3:wM (ctx E7) 3000 84 (ww OA.a (wm 0 (vD OA.a))) (vD OA.a).length=Zr:=by kernel_rfl
def OB:List Int→List Int:=vU (vK E7) OA Zr
theorem an4:wh Tryz.prog gG ⟨84,OA,OB⟩:=xw (xx Ub) 3000 an3 (by kernel_rfl)
def OC:Ct:=⟨[.sc kB,.sc kB,.agg [kU,kU]],[.agg [kU,kU,kB],.sc .bool]⟩
def Zt:vo SV :=
 (.ite kC kD (.call 14 kG 4 1 (.ite (.not je) kD (.call 49 kG 5 4 (.call 53 dP 9 1 (.call 111 [dX,dZ,(.bin .sub .i64 (.lit 129) iX)] 10 2 (.call 53 [dI] 12 1 (.call 110 [eD,eF,(.bin .sub .i64 (.lit 129) kH)] 13 2 (.call 51 [dI] 15 1 (.call 231 [dI,eG,eY] 16 2 (.call 198 [dI,ik,(.bin .add .i64 (.bin .mul .i64 aZ jg) ai),eO,eQ] 18 2 (.call 197 [dI,eT,eU] 20 2 (.call 15 kG 22 1 (.ite kJ (.leaf (.tup [(.agg [gP,fe,iU]),gm])) (.leaf (.tup [(.agg [gP,fe,gY]),gm]))))))))))))))))
theorem an5:wM (ctx E7) 3000 169 (ww OC.a (wm 0 (vD OC.a))) (vD OC.a).length=Zt:=by kernel_rfl
def OD:List Int→List Int:=vU (vK E7) OC Zt
theorem an6:wh Tryz.prog gG ⟨169,OC,OD⟩:=xw (xx Ub) 3000 an5 (by kernel_rfl)
def E8:List wO:=⟨84,OA,OB⟩::⟨169,OC,OD⟩::E7
theorem adY:∀ e∈E8,wh Tryz.prog gG e:=List.forall_mem_cons.2 ⟨an4,List.forall_mem_cons.2 ⟨an6,Ub⟩⟩
theorem adZ:vK E7 139=yA:=wz (e:=⟨139,_,yA⟩) rfl
theorem an7:vK E7 144=Iq:=wz (e:=⟨144,_,Iq⟩) rfl
theorem Zu:vK E7 14=yR:=wz (e:=⟨14,_,yR⟩) rfl
theorem Zv:vK E7 196=EK:=wz (e:=⟨196,_,EK⟩) rfl
theorem Zw:vK E7 197=Fz:=wz (e:=⟨197,_,Fz⟩) rfl
theorem QW:vK E7 15=zH:=wz (e:=⟨15,_,zH⟩) rfl
theorem an8:vK E7 141=AR:=wz (e:=⟨141,_,AR⟩) rfl
theorem an9:vK E7 146=Iy:=wz (e:=⟨146,_,Iy⟩) rfl
theorem aoa:vK E7 147=yu:=wz (e:=⟨147,_,yu⟩) rfl
theorem aob:vK E7 49=Fy:=wz (e:=⟨49,_,Fy⟩) rfl
theorem ad1:vK E7 53=Cj:=wz (e:=⟨53,_,Cj⟩) rfl
theorem aoc:vK E7 111=Aj:=wz (e:=⟨111,_,Aj⟩) rfl
theorem aod:vK E7 110=Fw:=wz (e:=⟨110,_,Fw⟩) rfl
theorem aoe:vK E7 51=Dr:=wz (e:=⟨51,_,Dr⟩) rfl
theorem aof:vK E7 231=Oq:=wz (e:=⟨231,_,Oq⟩) rfl
theorem aog:vK E7 198=Gu:=wz (e:=⟨198,_,Gu⟩) rfl
open Go.RowKit
def OE:Ct:=⟨[.sc kB,.sc kB,.agg [kB,.bool],.agg [kU,kU]],[.agg [kU,kU,kB]]⟩
def Zx:vo SV :=
 (.ite (.not (.ite dF ae (.ite kC ae ai))) iY (.ite kL iY (.call 169 [dD,dI,aC,dU] 6 4 (.ite gW (.leaf (.agg [aB,fF,(.int .u8 jS)])) (.call 139 kM 10 5 (.ite kP (.call 141 [dI,gq] 15 2 kQ) (.call 150 [eG,eY,ae,ae] 15 4 (.call 147 [dI,kK,iR,gq,kH,eX,eO,eQ,eT] 19 3 (.leaf (.agg [gM,gP,(.int .u8 (.var kB 21))]))))))))))
theorem aoh:wM (ctx E8) 3000 98 (ww OE.a (wm 0 (vD OE.a))) (vD OE.a).length=Zx:=by kernel_rfl
def OG:List Int→List Int:=vU (vK E8) OE Zx
theorem aoi:wh Tryz.prog gG ⟨98,OE,OG⟩:=xw (xx adY) 3000 aoh (by kernel_rfl)
def E9:List wO:=⟨98,OE,OG⟩::E8
theorem aoj:∀ e∈E9,wh Tryz.prog gG e:=List.forall_mem_cons.2 ⟨aoi,adY⟩
theorem ad2:vK E8 169=OD:=wz (e:=⟨169,_,OD⟩) rfl
theorem aok:vK E8 139=yA:=wz (e:=⟨139,_,yA⟩) rfl
theorem aol:vK E8 141=AR:=wz (e:=⟨141,_,AR⟩) rfl
theorem aom:vK E8 150=yT:=wz (e:=⟨150,_,yT⟩) rfl
theorem aon:vK E8 147=yu:=wz (e:=⟨147,_,yu⟩) rfl
open Go.RowKit
def E10:List wO:=E9
theorem aoo:∀ e∈E10,wh Tryz.prog gG e:=aoj
end Go.Proofs.YtemomocmfggiaaaGreatDoor
