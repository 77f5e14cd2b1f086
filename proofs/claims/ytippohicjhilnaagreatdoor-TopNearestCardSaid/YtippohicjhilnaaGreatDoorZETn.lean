import Derived.Test.YtippohicjhilnaaGreatDoorZDTn
set_option linter.unusedSimpArgs false
set_option linter.unusedVariables false
set_option maxRecDepth 100000
open Go.Proofs.Tryz
namespace Go.Proofs.YtippohicjhilnaaGreatDoor
open Go.RowKit
def NA:Ct:=⟨[.agg [kU,kU]],[.sc .bool]⟩
abbrev aa:X:=.var kU 0
abbrev ae:X:=.lit 0
abbrev af:X:=.bin .eql .u64 aa ae
abbrev ag:X:=.var kU 1
abbrev ah:X:=.bin .eql .u64 ag ae
abbrev ai:X:=.lit 1
abbrev aj:X:=.var kI 2
abbrev ak:X:=.bin .lss .i64 aj ae
abbrev au:SV:=.bool ae
abbrev av:vU SV:=.leaf au
abbrev ax:X:=.lit 63
abbrev ay:X:=.var kU 3
abbrev az:X:=.var kU 2
abbrev aA:X:=.var kU 6
abbrev aB:SV:=.int .u64 aA
abbrev aC:X:=.var kU 4
abbrev aD:SV:=.int .u64 aC
abbrev aF:vU SV:=.leaf (.tup [(.agg [aB,aD]),(.bool (.bin .neq .u64 (.var .bit 7) ae))])
abbrev aG:SV:=.int .u64 az
abbrev aH:SV:=.int .u64 ay
abbrev aJ:SV:=.int .u64 ag
abbrev aK:SV:=.int .u64 aa
abbrev aL:SV:=.int .u64 ae
abbrev aM:X:=.lit 128
abbrev aO:X:=.min (.max aj ae) aM
abbrev aP:X:=.max (.lit (-128)) aO
abbrev aQ:X:=.lit 6
abbrev aR:X:=.bin .shr .i64 aP aQ
abbrev aS:X:=.bin .sub .i64 ai aR
abbrev aT:X:=.conv .u64 (.bin .and .i64 aP ax)
abbrev aU:X:=.bin .sub .u64 ax aT
abbrev aV:X:=.max (.lit (-128)) (.min (.bin .sub .i64 ae aO) aM)
abbrev aW:X:=.bin .shr .i64 aV aQ
abbrev aX:X:=.bin .sub .i64 ai aW
abbrev aY:X:=.lit 2
abbrev aZ:X:=.conv .u64 (.bin .and .i64 aV ax)
abbrev bf:X:=.bin .sub .i64 aX ai
abbrev bg:X:=.bin .sub .u64 ax aZ
abbrev bi:X:=.bin .sub .i64 ae aW
abbrev bq:X:=.bin .sub .i64 bi ai
abbrev bu:X:=.var kI 4
abbrev bv:X:=.lit 256
abbrev bz:X:=.min (.max bu ae) bv
abbrev bE:X:=.max (.lit (-256)) bz
abbrev bG:X:=.bin .shr .i64 bE aQ
abbrev bH:X:=.conv .u64 (.bin .and .i64 bE ax)
abbrev bI:X:=.bin .sub .u64 ax bH
abbrev bJ:X:=.bin .sub .i64 ai bG
abbrev bK:X:=.bin .sub .i64 aY bG
abbrev bL:X:=.bin .sub .i64 bK ai
abbrev bP:X:=.lit 3
abbrev bT:X:=.bin .sub .i64 bP bG
abbrev bU:X:=.bin .sub .i64 bT ai
abbrev bV:X:=.max (.lit (-256)) (.min (.bin .sub .i64 ae bz) bv)
abbrev cu:X:=.bin .shr .i64 bV aQ
abbrev cz:X:=.bin .sub .i64 ae cu
abbrev cO:X:=.lit 4
abbrev df:X:=.conv .u64 (.bin .and .i64 bV ax)
abbrev dh:X:=.bin .sub .i64 cz ai
abbrev di:X:=.bin .sub .u64 ax df
abbrev dw:X:=.bin .sub .i64 ai cu
abbrev dx:X:=.bin .sub .i64 dw ai
abbrev dz:X:=.bin .sub .i64 aY cu
abbrev dA:X:=.bin .sub .i64 dz ai
abbrev dC:X:=.bin .sub .i64 bP cu
abbrev dD:X:=.bin .sub .i64 dC ai
abbrev dE:SV:=.int .i64 ae
abbrev dF:X:=.var kB 0
abbrev dG:X:=.bin .lss .i64 dF cO
abbrev dH:X:=.not dG
abbrev dI:SV:=.int .i64 (.lit 1023)
abbrev dJ:SV:=.int .i64 (.lit 16383)
abbrev dK:X:=.var .bool 1
abbrev dL:X:=.var .bool 2
abbrev dM:X:=.var kB 1
abbrev dO:X:=.var kB 6
abbrev dP:X:=.bin .eql .u8 dO ae
abbrev dQ:X:=.lit (-1)
abbrev dR:X:=.bin .eql .u8 dM bP
abbrev dS:X:=.bin .eql .u8 dO bP
abbrev dU:List X:=[dF]
abbrev dW:X:=.var kI 3
abbrev dX:X:=.var kI 1
abbrev dY:X:=.bin .sub .i64 aM aj
abbrev dZ:X:=.var kU 5
abbrev ed:SV:=.int .u64 dZ
abbrev eD:vU SV:=.leaf (.agg [ed,aB])
abbrev eF:X:=.var kU 7
abbrev eG:List X:=[aC,dZ,aA,eF]
abbrev eH:X:=.var kU 8
abbrev eO:X:=.var kU 9
abbrev eQ:X:=.var kU 10
abbrev eT:X:=.var kU 11
abbrev eU:X:=.var kU 13
abbrev eX:X:=.var kU 12
abbrev eZ:X:=.var kU 16
abbrev fe:X:=.var kU 17
abbrev fq:X:=.var kU 18
abbrev fu:X:=.var kU 19
abbrev fw:X:=.var kU 15
abbrev fA:X:=.var kU 14
abbrev fB:X:=.var kU 21
abbrev fC:SV:=.int .u64 fB
abbrev fF:X:=.var kU 22
abbrev fG:SV:=.int .u64 fF
abbrev fH:X:=.var kU 23
abbrev fI:SV:=.int .u64 fH
abbrev fJ:X:=.var kU 24
abbrev fK:X:=.var kI 6
abbrev fM:SV:=.int .u64 eF
abbrev fO:SV:=.int .u64 eH
abbrev fQ:X:=.bin .sub .i64 bv fK
abbrev fT:SV:=.int .u64 eT
abbrev fV:SV:=.int .u64 eX
abbrev fZ:List X:=[aa,ag,az,ay,bu]
abbrev gm:List X:=[aa,ag,az,ay]
abbrev gp:X:=.bin .eql .i64 bu ae
abbrev gq:X:=.bin .sub .i64 bv bu
abbrev gy:SV:=.agg [ed,aB,fM,fO]
abbrev gz:X:=.var .bool 7
abbrev gD:SV:=.int .u64 eO
abbrev gF:SV:=.bool ai
abbrev gH:vU SV:=.leaf (.tup [(.agg [fO,gD]),gF])
abbrev gI:X:=.var .bool 10
abbrev gJ:X:=.bin .neq .u64 az az
abbrev gK:X:=.ite (.bin .neq .u64 aa aa) (.ite gJ ae dQ) (.ite gJ ai (.ite (.bin .lss .u64 aa az) dQ (.ite (.bin .gtr .u64 aa az) ai ae)))
abbrev gL:X:=.bin .neq .u64 ay ay
abbrev gM:X:=.ite (.bin .neq .u64 ag ag) (.ite gL ae dQ) (.ite gL ai (.ite (.bin .lss .u64 ag ay) dQ (.ite (.bin .gtr .u64 ag ay) ai ae)))
abbrev gP:X:=.var kI 5
abbrev gQ:SV:=.agg [aL,aL]
abbrev gT:X:=.bin .sub .i64 gP fK
abbrev gV:X:=.bin .sub .i64 fK ai
abbrev gY:X:=.bin .sub .i64 gP ai
abbrev gZ:SV:=.int .u64 fu
abbrev ib:X:=.var kU 20
abbrev ig:SV:=.int .u64 ib
abbrev ik:SV:=.int .u64 fA
abbrev il:SV:=.int .u64 fw
abbrev iq:vU SV:=.call 43 [eH,eO,gV] 10 2 (.call 27 [ay,aC,gV] 12 2 (.call 44 [eQ,eT,eX,eU] 14 3 (.ite dK (.call 43 [ae,ai,gY] 17 2 (.call 44 [fA,fw,fe,fq] 19 3 (.leaf (.agg [gZ,ig])))) (.leaf (.agg [ik,il])))))
abbrev iw:vU SV:=.call 27 [ae,ae,gT] 8 2 iq
abbrev iy:X:=.var .bool 9
abbrev iD:X:=.bin .lss .i64 bu ae
abbrev iF:SV:=.int .u8 ae
abbrev iG:X:=.bin .gtr .i64 bu (.lit 127)
abbrev iH:X:=.lit 255
abbrev iI:X:=.bin .sub .i64 iH bu
abbrev iJ:X:=.bin .and .i64 iI ax
abbrev iK:X:=.var .bool 5
abbrev iL:vU SV:=.leaf (.tup [dE,(.agg [aL,aL,aL,aL])])
abbrev iM:X:=.var kI 7
abbrev iN:SV:=.int .u64 eQ
abbrev iO:SV:=.int .u64 eU
abbrev iQ:vU SV:=.call 218 [ay,aC,eH,eO] 10 4 (.leaf (.tup [(.int .i64 (.bin .add .i64 (.bin .add .i64 aj iM) ai)),(.agg [iN,fT,fV,iO])]))
abbrev iR:vU SV:=.ite (.bin .neq .u8 dO ai) (.ite (.bin .neq .u8 dO aY) iL iQ) iQ
abbrev iT:X:=.bin .mul .i64 aY aj
abbrev iU:vU SV:=.leaf (.agg [aH,aD])
abbrev iV:X:=.lit 18446744073709551615
abbrev iW:X:=.bin .eql .i64 dW ae
abbrev iX:List X:=[dF,ag,az]
abbrev iZ:X:=.bin .sub .i64 bu ai
abbrev ja:X:=.var .bool 6
abbrev jb:vU SV:=.leaf (.agg [fM,fO])
abbrev jc:vU SV:=.leaf (.tup [gQ,au])
abbrev jd:X:=.var kB 13
abbrev je:X:=.var .bool 14
abbrev jf:SV:=.int .u64 eZ
abbrev jg:SV:=.bool (.bin .neq .u8 jd ae)
abbrev jh:X:=.var .bool 3
abbrev ji:SV:=.bool jh
abbrev jk:SV:=.int .u8 ai
abbrev jl:X:=.var kI 8
abbrev jm:SV:=.int .u8 aY
abbrev jo:SV:=.int .u8 bP
abbrev jq:X:=.var kI 9
abbrev jr:vU SV:=.leaf (.tup [(.int .u8 cO),ji])
abbrev jv:vU SV:=.leaf (.tup [(.int .u8 (.lit 5)),ji])
abbrev jw:vU SV:=.leaf (.agg [aL,aL,iF])
abbrev jA:X:=.not (.bin .leq .u8 dM cO)
abbrev jB:vU SV:=.leaf (.agg [aD,ed,(.int .u8 (.lit 20))])
abbrev jC:List X:=[dF,ay,aC]
abbrev jD:X:=.var kB 3
abbrev jE:X:=.lit 9223372036854775808
abbrev jF:X:=.var .bool 4
abbrev jG:SV:=.int .u8 jD
abbrev jH:X:=.var kI 15
abbrev jI:X:=.var .bool 20
abbrev jJ:X:=.lit (-1099511627776)
abbrev jK:X:=.lit 1099511627776
abbrev jL:X:=.var kI 14
abbrev jM:X:=.bin .sub .i64 (.max jJ (.min bu jK)) jL
abbrev jN:X:=.bin .add .i64 jM ai
abbrev jO:X:=.var .bool 21
abbrev jP:vU SV:=.call 187 [dF,dM,jh] 22 3 (.leaf (.agg [fG,fI,(.int .u8 (.var kB 24))]))
abbrev jQ:X:=.bin .sub .i64 ai (.var kI 16)
abbrev jR:X:=.bin .lss .i64 jM jQ
abbrev jS:List X:=[eQ,eT,eX,eU,(.bin .sub .i64 jQ jM)]
abbrev jT:X:=.var kU 25
abbrev jU:List X:=[fF,fH,fJ,jT,jH,dM,jh]
abbrev jV:X:=.var kU 26
abbrev jW:X:=.var kU 27
abbrev jX:X:=.var .bool 28
abbrev jY:X:=.var kU 29
abbrev jZ:SV:=.int .u64 jY
abbrev j4:X:=.var kU 30
abbrev j5:SV:=.int .u64 j4
abbrev j6:vU SV:=.leaf (.agg [jZ,j5,(.int .u8 (.lit 24))])
abbrev kg:vU SV:=.leaf (.agg [jZ,j5,iF])
abbrev ku:vU SV:=.call 188 jS 22 4 (.call 184 jU 26 3 (.call 189 [dF,jh,ae,jV,jW] 29 2 (.ite jX j6 kg)))
abbrev kv:SV:=.int .u8 (.lit 16)
abbrev kw:X:=.var .bool 19
abbrev ky:vU SV:=.leaf (.agg [fG,fI,iF])
abbrev kz:vU SV:=.ite kw (.leaf (.agg [fG,fI,kv])) ky
abbrev kC:List X:=[dF,dZ,aA]
abbrev kF:X:=.var kB 8
abbrev kG:X:=.var .bool 12
abbrev kH:List X:=[gz,kF,jq,eQ,eT,kG,jd,jL,fw,eZ]
abbrev kJ:X:=.var .bool 17
abbrev kK:vU SV:=.leaf (.agg [fC,fG,jk])
abbrev kL:X:=.var .bool 24
abbrev kM:vU SV:=.leaf (.agg [fC,fG,iF])
abbrev kN:vU SV:=.leaf (.agg [fG,fI,jk])
abbrev kP:X:=.var .bool 25
abbrev kQ:X:=.bin .eql .u8 kF bP
abbrev kR:X:=.bin .eql .u8 jd bP
abbrev kS:X:=.not (.beq gz kG)
abbrev kT:vU SV:=.leaf (.agg [ig,fC,iF])
abbrev kV:SV:=.int .u64 jV
abbrev kX:X:=.not (.bin .lss .i64 dM cO)
abbrev kY:vU SV:=.leaf (.tup [(.agg [aL,aL,iF]),au])
abbrev kZ:List X:=[dF,az,ay]
abbrev lg:X:=.var kI 12
abbrev lh:X:=.var .bool 22
abbrev ll:X:=.var kB 2
abbrev lq:X:=.not (.bin .leq .u8 ll cO)
abbrev lu:List X:=[dF,aC,dZ]
abbrev lv:X:=.bin .eql .u8 (.var kB 11) bP
abbrev lw:vU SV:=.leaf (.agg [il,jf,iF])
abbrev lF:vU SV:=.leaf (.tup [(.agg [fM,fO,jk]),gF])
abbrev lG:vU SV:=.leaf (.tup [(.agg [gD,iN,jk]),gF])
abbrev lH:X:=.var .bool 11
abbrev lI:vU SV:=.leaf (.tup [(.agg [iN,fT,jk]),gF])
abbrev lJ:X:=.var .bool 13
abbrev lL:X:=.var .bool 8
abbrev lN:vU SV:=.leaf (.tup [(.agg [fT,fV,jk]),gF])
abbrev lS:List X:=[dF,aA,eF]
abbrev lU:X:=.var .bool 15
abbrev lV:vU SV:=.leaf (.tup [(.agg [fV,iO,jk]),gF])
abbrev lW:X:=.var .bool 16
abbrev lX:vU SV:=.leaf (.tup [(.agg [iO,ik,jk]),gF])
abbrev lY:List X:=[ag,az,ay,aC]
abbrev l7:List X:=[aA,eF,eH,eO]
abbrev l8:X:=.max jJ (.min gP jK)
abbrev l9:X:=.var kI 0
abbrev ma:X:=.max jJ (.min l9 jK)
abbrev mf:vU SV:=.leaf (.int .i64 (.max ma l8))
abbrev mh:List X:=[ag,az,ay,aC,(.bin .sub .i64 (.max ma l8) ma)]
abbrev mi:List X:=[aA,eF,eH,eO,(.bin .sub .i64 (.max ma l8) l8)]
abbrev mo:vU SV:=.leaf (.int .i64 (.var kI 20))
abbrev mq:List X:=[l9,ag,az,ay,aC,gP,aA,eF,eH,eO]
abbrev mr:X:=.bin .add .i64 (.var kI 10) ai
abbrev mD:X:=.bin .lss .i64 (.var kI 10) ae
abbrev mF:X:=.var kI 11
abbrev mG:X:=.bin .add .i64 mF ae
abbrev mH:List X:=[aA,eF,eH,eO,(.bin .sub .i64 mG l8)]
abbrev mI:List X:=[ag,az,ay,aC,(.bin .sub .i64 mG ma)]
abbrev mJ:vU SV:=.call 158 [eX,eU,fA,fw,eZ,fe,fq,fu] 20 5 (.leaf (.tup [(.agg [(.int .i64 mG),ig,fC,fG,fI]),(.bool mD)]))
abbrev mK:vU SV:=.leaf (.agg [(.int .u64 fe),(.int .u64 fq),(.int .u8 (.var kB 19))])
abbrev mM:vU SV:=.ite jI mK (.call 78 [dF,gz] 21 2 kM)
abbrev mO:List X:=[dF,ae,ay,aC,dZ,aA]
abbrev mP:List X:=[eQ,eT,ae,ae]
abbrev mQ:List X:=[fw,eZ,ae,ae]
abbrev mR:X:=.var kU 28
abbrev mU:List X:=[jq,fB,fF,fH,fJ,jL,jT,jV,jW,mR]
abbrev mV:X:=.var kU 31
abbrev mW:X:=.var kU 32
abbrev mY:X:=.var kU 33
abbrev mZ:X:=.var kU 36
abbrev ng:SV:=.int .u64 mZ
abbrev ni:SV:=.int .u64 (.var kU 37)
abbrev nk:vU SV:=.leaf (.agg [ng,ni,(.int .u8 (.var kB 38))])
abbrev nu:X:=.var .bool 34
abbrev ny:X:=.var kU 35
abbrev nA:SV:=.int .u64 ny
abbrev nC:vU SV:=.call 134 [dF,dM,dL,gz,(.var kI 29),j4,mV,mW,mY] 35 3 (.leaf (.agg [nA,ng,(.int .u8 (.var kB 37))]))
abbrev nD:List X:=[je,(.var kB 15),(.var kI 16),fe,fq,kw,(.var kB 20),(.var kI 21),fF,fH]
abbrev nE:X:=.bin .eql .u8 (.var kB 10) bP
abbrev nG:X:=.not (.beq je kw)
abbrev nH:List X:=[dF,ae,ay,aC,dZ,aA,eF,eH]
abbrev nI:X:=.var .bool 33
abbrev nJ:X:=.var kU 34
abbrev nK:SV:=.int .u64 nJ
abbrev nL:X:=.var kU 38
abbrev nM:SV:=.int .u64 nL
abbrev nO:X:=.var kU 39
abbrev nP:SV:=.int .u64 mV
abbrev nQ:vU SV:=.leaf (.agg [j5,nP,(.int .u8 (.var kB 32))])
abbrev nR:vU SV:=.leaf (.agg [nK,nA,iF])
abbrev nS:vU SV:=.ite nI nQ (.call 78 [dF,nG] 34 2 nR)
abbrev nT:List X:=[dF,ai,ay,aC,dZ,aA,eF,eH]
abbrev nU:vU SV:=.ite (.not (.var .bool 29)) (.ite nE (.ite (.not (.beq nG iy)) (.call 3000077 nH 30 4 (.call 3000077 [dF,(.not nI),ay,aC,dZ,aA,eF,eH] 34 4 (.ite (.var .bool 37) (.leaf (.agg [nK,nA,(.int .u8 (.var kB 36))])) (.call 78 [dF,nG] 38 2 (.leaf (.agg [nM,(.int .u64 nO),iF])))))) (.call 3000077 nH 30 4 nS)) (.call 3000077 nH 30 4 nS)) (.call 3000077 nT 30 4 nS)
abbrev nV:List X:=[eX,eU,ae,ae]
abbrev nX:X:=.var kI 24
abbrev nY:X:=.var .bool 53
abbrev nZ:X:=.var kI 47
abbrev og:vU SV:=.leaf (.agg [(.int .u64 (.var kU 54)),(.int .u64 (.var kU 55)),(.int .u8 (.var kB 56))])
abbrev oh:X:=.var .bool 52
abbrev ol:X:=.var kU 40
abbrev om:X:=.var kU 41
abbrev oo:X:=.var kI 38
abbrev oq:SV:=.int .u64 (.var kU 44)
abbrev ou:SV:=.int .u64 (.var kU 45)
abbrev ow:vU SV:=.call 134 [dF,dM,dL,nG,oo,nO,ol,om,(.var kU 42)] 44 3 (.leaf (.agg [oq,ou,(.int .u8 (.var kB 46))]))
abbrev oz:vU SV:=.ite nI nQ (.ite nE (.call 78 [dF,iy] 34 2 nR) (.call 147 nV 34 4 (.call 128 [nX,jT,jV,jW,mR,mF,nJ,ny,mZ,(.var kU 37)] 38 5 (.ite (.not (.beq nG iy)) (.call 147 nV 43 4 (.call 130 [nX,jT,jV,jW,mR,mF,(.var kU 43),(.var kU 44),(.var kU 45),(.var kU 46)] 47 6 (.call 132 [(.var kU 48),(.var kU 49),(.var kU 50),(.var kU 51)] 53 1 (.ite nY (.call 134 [dF,dM,dL,dR,nZ,(.var kU 48),(.var kU 49),(.var kU 50),(.var kU 51)] 54 3 og) (.call 134 [dF,dM,dL,(.not (.beq nG oh)),nZ,(.var kU 48),(.var kU 49),(.var kU 50),(.var kU 51)] 54 3 og))))) (.call 132 [nO,ol,om,(.var kU 42)] 43 1 (.ite (.var .bool 43) ow ow))))))
abbrev oC:vU SV:=.leaf (.agg [iN,fT,(.int .u8 (.var kB 12))])
abbrev oD:X:=.var .nat 0
abbrev oF:X:=.var .nat 4
abbrev oG:X:=.var .nat 1
abbrev oH:X:=.bin .eql .u8 dF ae
abbrev oI:X:=.bin .eql .u8 dF ai
abbrev oJ:X:=.bin .eql .u8 dF aY
abbrev oK:X:=.bin .eql .u8 dF bP
abbrev oL:X:=.var .nat 5
abbrev oM:X:=.var .nat 6
abbrev oN:X:=.var .nat 8
abbrev oO:X:=.bin .eql .i64 (.dlen oL) ae
abbrev oP:SV:=.int .u64 jh
abbrev oQ:X:=.var .nat 7
abbrev oU:List X:=[oG,(.bin .sub .i64 aj (.min aj gP))]
abbrev oV:List X:=[oF,(.bin .sub .i64 gP (.min aj gP))]
abbrev oZ:X:=.var .bool 0
abbrev o9:SV:=.int .u64 (.min aj gP)
abbrev pg:X:=.bin .lss .i64 jl ae
abbrev pq:SV:=.int .u64 (.var .nat 9)
abbrev pu:vU SV:=.call 78 [dF,kS] 21 2 kM
abbrev pz:X:=.bin .eql .u8 kF ae
abbrev pE:vU SV:=.call 149 [dF,kS] 21 2 kM
abbrev pF:List X:=[jT,jV,jW,mR,(.lit 100)]
abbrev pG:X:=.var .bool 36
abbrev pI:X:=.bin .add .i64 (.bin .sub .i64 jq jL) (.lit 27)
abbrev pJ:vU SV:=.leaf (.agg [ni,nM,(.int .u8 (.var kB 39))])
abbrev pK:vU SV:=.ite pz pE (.ite (.bin .eql .u8 jd ae) (.call 78 [dF,kS] 21 2 (.leaf (.agg [fC,fG,jm]))) (.call 147 mP 21 4 (.call 146 [fB,fF,fH,fJ,fw,eZ] 25 7 (.call 148 pF 32 4 (.call 48 [jY,j4] 36 1 (.ite (.not pG) (.call 134 [dF,dM,dL,kS,pI,(.bin .or .u64 mW ai),mY,nJ,ny] 37 3 pJ) (.call 134 [dF,dM,dL,kS,pI,mW,mY,nJ,ny] 37 3 pJ)))))))
abbrev pM:vU SV:=.call 8 iX 20 2 kT
abbrev pO:X:=.bin .sub .i64 lg ai
abbrev pQ:X:=.bin .lss .i64 iM pO
abbrev pR:X:=.bin .eql .i64 iM pO
abbrev pU:List X:=[eH,eO,eU,fA]
abbrev pV:X:=.bin .add .i64 (.min iM lg) aM
abbrev pW:X:=.not (.beq iK ae)
abbrev pY:X:=.bin .sub .i64 iM lg
abbrev qa:X:=.bin .gtr .i64 pY ae
abbrev qd:X:=.not (.var .bool 35)
abbrev qf:vU SV:=.ite (.bin .neq .u8 (.var kB 38) ae) jw (.leaf (.agg [ng,ni,iF]))
abbrev qg:vU SV:=.call 152 [jW,mR] 31 4 (.call 132 [mV,mW,mY,nJ] 35 1 (.call 134 [dF,cO,ae,(.not (.beq iK qd)),pV,mV,mW,mY,nJ] 36 3 qf))
abbrev qh:vU SV:=.call 152 [fH,fJ] 31 4 (.call 134 [dF,cO,ae,pW,pV,mV,mW,mY,nJ] 35 3 (.ite (.bin .neq .u8 (.var kB 37) ae) jw (.leaf (.agg [nA,ng,iF]))))
abbrev qj:vU SV:=.call 229 [eU,fA,fH,fJ] 27 3 (.call 156 [fH,fJ,jW,mR] 30 1 (.ite (.bin .gtr .i64 (.var kI 30) ae) qg (.ite (.bin .eql .i64 (.var kI 30) ae) (.ite kP qg qh) qh)))
abbrev ql:X:=.bin .gtr .i64 (.var kI 26) ae
abbrev qm:SV:=.int .u64 mY
abbrev qo:vU SV:=.ite (.bin .neq .u8 (.var kB 34) ae) jw (.leaf (.agg [(.int .u64 mW),qm,iF]))
abbrev qp:vU SV:=.call 152 [fH,fJ] 27 4 (.call 132 [jW,mR,jY,j4] 31 1 (.call 134 [dF,cO,ae,(.not (.beq iK (.not (.var .bool 31)))),pV,jW,mR,jY,j4] 32 3 qo))
abbrev qw:X:=.bin .eql .i64 (.var kI 26) ae
abbrev qx:vU SV:=.call 134 [dF,cO,ae,pW,pV,jW,mR,jY,j4] 31 3 (.ite (.bin .neq .u8 (.var kB 33) ae) jw (.leaf (.agg [nP,(.int .u64 mW),iF])))
abbrev qy:vU SV:=.call 152 [eH,eO] 27 4 qx
abbrev qz:vU SV:=.call 8 iX 21 2 kM
abbrev qA:X:=.var .bool 44
abbrev qB:X:=.bin .neq .u8 (.var kB 28) ae
abbrev qC:vU SV:=.leaf (.agg [kV,(.int .u64 jW),iF])
abbrev qD:vU SV:=.call 152 [mR,jY] 32 4 (.call 132 [mW,mY,nJ,ny] 36 1 (.call 134 [dF,cO,ae,(.not (.beq iK (.not pG))),pV,mW,mY,nJ,ny] 37 3 (.ite (.bin .neq .u8 (.var kB 39) ae) jw (.leaf (.agg [ni,nM,iF])))))
abbrev qE:vU SV:=.call 152 [fJ,jT] 32 4 (.call 134 [dF,cO,ae,pW,pV,mW,mY,nJ,ny] 36 3 qf)
abbrev qF:vU SV:=.call 229 [eU,fA,fJ,jT] 28 3 (.call 156 [fJ,jT,mR,jY] 31 1 (.ite (.bin .gtr .i64 (.var kI 31) ae) qD (.ite (.bin .eql .i64 (.var kI 31) ae) (.ite (.var .bool 26) qD qE) qE)))
abbrev qG:X:=.var kI 27
abbrev qH:X:=.bin .gtr .i64 qG ae
abbrev qI:X:=.var .bool 32
abbrev qJ:vU SV:=.call 152 [fJ,jT] 28 4 (.call 132 [mR,jY,j4,mV] 32 1 (.call 134 [dF,cO,ae,(.not (.beq iK (.not qI))),pV,mR,jY,j4,mV] 33 3 (.ite (.bin .neq .u8 (.var kB 35) ae) jw (.leaf (.agg [qm,nK,iF])))))
abbrev qK:X:=.bin .eql .i64 qG ae
abbrev qL:vU SV:=.call 134 [dF,cO,ae,pW,pV,mR,jY,j4,mV] 32 3 qo
abbrev qM:vU SV:=.call 152 [eH,eO] 28 4 qL
abbrev qN:vU SV:=.ite lv qz (.ite pQ qz (.ite pR (.call 152 [eH,eO] 21 4 (.call 156 pU 25 1 (.ite (.bin .gtr .i64 (.var kI 25) ae) (.call 152 [eU,fA] 26 4 (.call 152 [eU,fA] 30 4 (.call 157 [jV,jW,mR,jY,j4,mV,mW,mY] 34 5 (.call 158 [nJ,ny,mZ,(.var kU 37),fB,fF,fH,fJ] 39 5 (.call 132 [nO,ol,om,(.var kU 42)] 44 1 (.call 134 [dF,cO,ae,(.not (.beq iK (.not qA))),pV,nO,ol,om,(.var kU 42)] 45 3 (.ite (.bin .neq .u8 (.var kB 47) ae) jw (.leaf (.agg [ou,(.int .u64 (.var kU 46)),iF]))))))))) (.call 134 [dF,cO,ae,pW,pV,fB,fF,fH,fJ] 26 3 (.ite qB jw qC))))) (.call 229 pU 21 3 (.ite (.not (.var .bool 23)) (.ite qa (.call 230 [fB,fF,pY,eU,fA] 24 4 qF) (.call 229 [eU,fA,fB,fF] 24 3 (.call 156 [fB,fF,fJ,jT] 27 1 (.ite qH qJ (.ite qK qJ (.call 152 [fB,fF] 28 4 qL)))))) (.ite qa (.call 230 [eH,eO,pY,eU,fA] 24 4 qF) (.call 229 [eU,fA,eH,eO] 24 3 (.call 156 [eH,eO,fJ,jT] 27 1 (.ite qH qJ (.ite qK qM qM)))))))))
abbrev qO:vU SV:=.ite jI mK (.ite dP qz qN)
abbrev qP:vU SV:=.leaf (.agg [ik,il,iF])
abbrev qQ:List X:=[eH,eO,ae,ae]
abbrev qR:X:=.bin .sub .i64 iM iH
abbrev qU:X:=.bin .add .i64 (.bin .quo .i64 (.bin .add .i64 qR ai) aY) (.lit 155)
abbrev qV:vU SV:=.leaf (.agg [qm,nK,(.int .u8 (.var kB 35))])
abbrev qW:X:=.bin .add .i64 (.bin .quo .i64 qR aY) (.lit 155)
abbrev qX:vU SV:=.leaf (.agg [jZ,j5,(.int .u8 (.var kB 31))])
abbrev qY:vU SV:=.ite dS (.call 78 [dF,iK] 14 2 qP) (.call 147 qQ 14 4 (.ite (.bin .neq .i64 (.bin .rem .i64 qR aY) ae) (.call 150 [fA,fw,eZ,fe,ai] 18 4 (.call 151 [fq,fu,ib,fB] 22 3 (.call 152 [fF,fH] 25 4 (.call 148 pF 29 4 (.ite (.not kL) (.call 134 [dF,dM,dL,ae,qU,(.bin .or .u64 jY ai),j4,mV,mW] 33 3 qV) (.call 134 [dF,dM,dL,ae,qU,jY,j4,mV,mW] 33 3 qV)))))) (.call 151 [fA,fw,eZ,fe] 18 3 (.call 152 [fq,fu] 21 4 (.call 148 [fB,fF,fH,fJ,(.lit 100)] 25 4 (.ite (.not jI) (.call 134 [dF,dM,dL,ae,qW,(.bin .or .u64 jT ai),jV,jW,mR] 29 3 qX) (.call 134 [dF,dM,dL,ae,qW,jT,jV,jW,mR] 29 3 qX)))))))
abbrev qZ:List X:=[dF,ae,ay,aC]
abbrev q8:vU SV:=.call 149 [dF,iK] 14 2 qP
abbrev q9:X:=.conv .u64 (.conv .i64 (.conv .i32 aC))
abbrev rf:X:=.bin .eql .u64 (.bin .shr .u64 q9 ax) ai
abbrev ry:vU SV:=.leaf (.agg [ed,aB,(.int .u8 (.var kB 7))])
abbrev rD:X:=.bin .eql .u64 (.bin .shr .u64 aC ax) ai
abbrev rE:vU SV:=.leaf (.bool (.bin .eql .u64 ag ag))
abbrev rG:vU SV:=.leaf (.agg [aL,iF])
abbrev rH:X:=.bin .eql .i64 dM ae
abbrev rJ:X:=.bin .eql .i64 dM ai
abbrev rM:X:=.bin .eql .i64 dM aY
abbrev rO:X:=.ite rH (.lit 2147483648) (.ite rJ ae (.ite rM jE ae))
abbrev rQ:vU SV:=.leaf (.agg [(.int .u64 (.bin .sub .u64 ae rO)),jk])
abbrev rR:X:=.bin .gtr .i64 iM (.lit 64)
abbrev rT:X:=.bin .lss .i64 iM ae
abbrev rU:List X:=[eQ,eT,eX,eU,(.bin .sub .i64 (.bin .sub .i64 ae iM) ai)]
abbrev rV:List X:=[fA,fw,eZ,fe,ae,ll,iK]
abbrev rX:X:=.bin .gtr .i64 (.var kI 21) ae
abbrev rY:SV:=.int .u64 (.bin .sub .u64 ae fu)
abbrev rZ:List X:=[eQ,eT,eX,eU,(.bin .add .i64 iM ai),ll,iK]
abbrev r9:X:=.bin .gtr .i64 (.var kI 17) ae
abbrev si:SV:=.int .u64 (.bin .sub .u64 ae fw)
abbrev sj:X:=.ite rH (.lit 2147483647) (.ite rJ (.lit 4294967295) (.ite rM (.lit 9223372036854775807) iV))
abbrev su:vU SV:=.leaf (.agg [(.int .u64 sj),jk])
abbrev sw:vU SV:=.ite dL (.leaf (.agg [aL,aL,kv])) jw
abbrev sD:vU SV:=.leaf (.agg [j5,nP,iF])
abbrev sF:vU SV:=.leaf (.tup [iF,iF])
abbrev sG:vU SV:=.leaf (.tup [jo,jk])
abbrev sH:vU SV:=.ite gz sG (.leaf (.tup [jo,iF]))
abbrev sI:vU SV:=.ite lL sG (.leaf (.tup [jo,iF]))
abbrev sJ:vU SV:=.ite gz sF (.leaf (.tup [jm,iF]))
abbrev sK:vU SV:=.leaf (.tup [jk,iF])
abbrev sM:vU SV:=.ite kS sJ (.ite gz (.leaf (.tup [jm,iF])) sF)
abbrev sN:vU SV:=.ite kS sJ (.ite gz (.leaf (.tup [(.int .u8 (.bin .add .u8 ai (.conv .u8 (.bin .sub .i64 ae (.var kI 25))))),iF])) (.leaf (.tup [(.int .u8 (.bin .add .u8 ai (.conv .u8 (.var kI 25)))),iF])))
abbrev sO:vU SV:=.call 76 iX 7 5 (.call 76 jC 12 5 (.ite kQ (.ite kR (.ite kS sJ (.ite gz sK sK)) (.ite kS sJ sJ)) (.ite kR (.ite pz sM sM) (.call 147 mP 17 4 (.call 147 mQ 21 4 (.call 180 [jq,fe,fq,fu,ib,jL,fB,fF,fH,fJ] 25 1 (.ite pz (.ite (.bin .eql .u8 jd ae) sK sN) sN)))))))
abbrev sQ:vU SV:=.leaf (.agg [(.int .i64 ai),aL,aL,iF])
abbrev sS:X:=.not (.bin .leq .u8 jD cO)
abbrev sU:X:=.bin .gtr .u8 (.var kB 4) ai
abbrev sV:X:=.not (.bin .eql .u8 ll ae)
abbrev sW:List X:=[dM,dZ,aA]
abbrev sZ:List X:=[dM,eF,eH]
abbrev tq:X:=.not (.and (.bin .eql .u64 eO ae) (.and (.bin .eql .u64 eQ ae) ai))
abbrev tu:X:=.bin .eql .u8 (.var kB 4) ai
abbrev tC:List X:=[dM,jD,tu,dZ,aA,eF,eH]
abbrev tH:vU SV:=.leaf (.agg [dE,iO,ik,(.int .u8 (.var kB 15))])
abbrev tJ:X:=.and (.bin .eql .u64 eF ae) (.and (.bin .eql .u64 eH ae) ai)
abbrev tK:SV:=.int .u8 (.var kB 14)
abbrev tL:vU SV:=.leaf (.agg [dE,fV,iO,tK])
abbrev tN:List X:=[dM,eO,eQ]
abbrev tO:List X:=[dM,dZ,aA,eF,eH]
abbrev tQ:X:=.not (.bin .lss .i64 ll cO)
abbrev tV:vU SV:=.leaf (.agg [dE,aL,(.int .u64 jd),tK])
abbrev tX:vU SV:=.leaf gF
abbrev tY:List X:=[dM,ay,aC]
abbrev tZ:X:=.bin .rem .u8 dF bP
abbrev ug:X:=.var .nat 37
abbrev uh:List X:=[dM,(.var kU 46),(.var kU 47)]
abbrev ui:X:=.bin .neq .i64 (.var kI 45) ae
abbrev uj:X:=.var .bool 57
abbrev uk:X:=.var kI 44
abbrev ul:X:=.var kI 51
abbrev um:X:=.lit 5000
abbrev uo:X:=.bin .gtr .i64 (.bin .sub .i64 uk ul) um
abbrev uq:X:=.bin .gtr .i64 (.bin .sub .i64 ul uk) um
abbrev uu:X:=.var kI 55
abbrev uw:X:=.bin .gtr .i64 (.bin .sub .i64 uu uk) um
abbrev uy:X:=.bin .gtr .i64 (.bin .sub .i64 uk uu) um
abbrev uz:X:=.var .bool 49
abbrev uA:X:=.var .nat 50
abbrev uB:List X:=[(.var .bool 42),(.var .nat 43),uk,uz,uA,ul]
abbrev uC:X:=.var .nat 54
abbrev uD:List X:=[(.var .bool 42),(.var .nat 43),uk,nY,uC,uu]
abbrev uE:X:=.var .bool 61
abbrev uF:X:=.var .nat 59
abbrev uG:List X:=[uE,(.var .nat 62),(.var kI 63),(.var .bool 58),uF,(.var kI 60)]
abbrev uH:List X:=[(.var .bool 58),uF,(.var kI 60),uE,(.var .nat 62),(.var kI 63)]
abbrev uI:X:=.not (.var .bool 65)
abbrev uJ:List X:=[uz,uA,ul,nY,uC,uu]
abbrev uK:X:=.bin .gtr .i64 (.dlen (.var .nat 67)) ae
abbrev uL:vU SV:=.ite (.beq (.bin .eql .i64 (.dlen uF) ae) (.bin .eql .u8 (.var kB 48) ae)) tX av
abbrev uM:List X:=[dM,nL,nO]
abbrev uN:X:=.bin .neq .i64 (.var kI 37) ae
abbrev uO:X:=.var kI 36
abbrev uP:X:=.var kI 43
abbrev uQ:X:=.bin .gtr .i64 (.bin .sub .i64 uO uP) um
abbrev uR:X:=.bin .gtr .i64 (.bin .sub .i64 uP uO) um
abbrev uS:X:=.bin .gtr .i64 (.bin .sub .i64 nZ uO) um
abbrev uT:X:=.bin .gtr .i64 (.bin .sub .i64 uO nZ) um
abbrev uU:X:=.var .bool 41
abbrev uV:X:=.var .nat 42
abbrev uW:List X:=[nu,(.var .nat 35),uO,uU,uV,uP]
abbrev uX:List X:=[nu,(.var .nat 35),uO,(.var .bool 45),(.var .nat 46),nZ]
abbrev uY:X:=.var .nat 51
abbrev uZ:List X:=[nY,uC,uu,(.var .bool 50),uY,(.var kI 52)]
abbrev ve:List X:=[(.var .bool 50),uY,(.var kI 52),nY,uC,uu]
abbrev vg:List X:=[uU,uV,uP,(.var .bool 45),(.var .nat 46),nZ]
abbrev vo:X:=.bin .gtr .i64 (.dlen uF) ae
abbrev vv:vU SV:=.ite (.beq (.bin .eql .i64 (.dlen uY) ae) (.bin .eql .u8 (.var kB 40) ae)) tX av
abbrev vw:List X:=[dM,jY,j4]
abbrev vC:X:=.bin .neq .i64 (.var kI 28) ae
abbrev vD:X:=.var kI 34
abbrev vF:X:=.bin .gtr .i64 (.bin .sub .i64 qG vD) um
abbrev vG:X:=.bin .gtr .i64 (.bin .sub .i64 vD qG) um
abbrev vH:X:=.bin .gtr .i64 (.bin .sub .i64 oo qG) um
abbrev vI:X:=.bin .gtr .i64 (.bin .sub .i64 qG oo) um
abbrev vJ:List X:=[kP,(.var .nat 26),qG,qI,(.var .nat 33),vD]
abbrev vK:List X:=[kP,(.var .nat 26),qG,pG,ug,oo]
abbrev vL:List X:=[qA,(.var .nat 45),(.var kI 46),uU,uV,uP]
abbrev vN:List X:=[uU,uV,uP,qA,(.var .nat 45),(.var kI 46)]
abbrev vO:X:=.not (.var .bool 48)
abbrev vP:List X:=[qI,(.var .nat 33),vD,pG,ug,oo]
abbrev vQ:X:=.bin .gtr .i64 (.dlen uA) ae
abbrev vR:vU SV:=.ite (.beq (.bin .eql .i64 (.dlen uV) ae) (.bin .eql .u8 (.var kB 31) ae)) tX av
def ac1:vU SV :=
 (.leaf (.bool (.and af (.and ah ai))))
theorem auE:xe (ctx E0) 3000 48 (wN NA.a (wM 0 (vV NA.a))) (vV NA.a).length=ac1:=by kernel_rfl
def Qx:List Int->List Int:=wE (wD E0) NA ac1
theorem ajN:wK prog gG ⟨48,NA,Qx⟩:=xI (xJ Ci) 3000 auE (by kernel_rfl)
def Qy:Ct:=⟨[.agg [kU,kU],.sc kI],[.sc .bool]⟩
def ac2:vU SV :=
 (.ite ak av (.ite (.bin .gtr .i64 aj (.lit 127)) av (.ite (.bin .gtr .i64 aj ax) (.leaf (.bool (.bin .eql .u64 (.bin .and .u64 (.bin .shr .u64 aa (.bin .sub .i64 aj (.lit 64))) ai) ai))) (.leaf (.bool (.bin .eql .u64 (.bin .and .u64 (.bin .shr .u64 ag aj) ai) ai))))))
theorem auF:xe (ctx E0) 3000 42 (wN Qy.a (wM 0 (vV Qy.a))) (vV Qy.a).length=ac2:=by kernel_rfl
def IK:List Int->List Int:=wE (wD E0) Qy ac2
theorem auG:wK prog gG ⟨42,Qy,IK⟩:=xI (xJ Ci) 3000 auF (by kernel_rfl)
def Qz:Ct:=⟨[.agg [kU,kU],.agg [kU,kU]],[.agg [kU,kU],.sc .bool]⟩
def ac3:vU SV :=
 (.call 75 [ag,ay,ae] 4 2 (.call 75 [aa,az,(.var .bit 5)] 6 2 aF))
theorem auH:xe (ctx E0) 3000 44 (wN Qz.a (wM 0 (vV Qz.a))) (vV Qz.a).length=ac3:=by kernel_rfl
def Eb:List Int->List Int:=wE (wD E0) Qz ac3
theorem auI:wK prog gG ⟨44,Qz,Eb⟩:=xI (xJ Ci) 3000 auH (by kernel_rfl)
def QA:Ct:=⟨[.agg [kU,kU],.agg [kU,kU]],[.agg [kU,kU],.sc .bool]⟩
def ac4:vU SV :=
 (.call 228 [ag,ay,ae] 4 2 (.call 228 [aa,az,(.var .bit 5)] 6 2 aF))
theorem auJ:xe (ctx E0) 3000 229 (wN QA.a (wM 0 (vV QA.a))) (vV QA.a).length=ac4:=by kernel_rfl
def QB:List Int->List Int:=wE (wD E0) QA ac4
theorem auK:wK prog gG ⟨229,QA,QB⟩:=xI (xJ Ci) 3000 auJ (by kernel_rfl)
def QC:Ct:=⟨[.sc kU,.sc kU],[.agg [kU,kU]]⟩
def ac5:vU SV :=
 (.call 288 [aa,ag] 2 2 (.leaf (.agg [aG,aH])))
theorem auL:xe (ctx E0) 3000 268 (wN QC.a (wM 0 (vV QC.a))) (vV QC.a).length=ac5:=by kernel_rfl
def QD:List Int->List Int:=wE (wD E0) QC ac5
theorem auM:wK prog gG ⟨268,QC,QD⟩:=xI (xJ Ci) 3000 auL (by kernel_rfl)
def QE:Ct:=⟨[.agg [kU,kU],.agg [kU,kU]],[.agg [kU,kU,kU,kU]]⟩
def ac6:vU SV :=
 (.leaf (.agg [aH,aG,aJ,aK]))
theorem auN:xe (ctx E0) 3000 147 (wN QE.a (wM 0 (vV QE.a))) (vV QE.a).length=ac6:=by kernel_rfl
def Gh:List Int->List Int:=wE (wD E0) QE ac6
theorem auO:wK prog gG ⟨147,QE,Gh⟩:=xI (xJ Ci) 3000 auN (by kernel_rfl)
def QF:Ct:=⟨[.agg [kU,kU]],[.agg [kU,kU,kU,kU]]⟩
def ajO:vU SV :=
 (.leaf (.agg [aJ,aK,aL,aL]))
theorem auP:xe (ctx E0) 3000 152 (wN QF.a (wM 0 (vV QF.a))) (vV QF.a).length=ajO:=by kernel_rfl
def ajP:List Int->List Int:=wE (wD E0) QF ajO
theorem auQ:wK prog gG ⟨152,QF,ajP⟩:=xI (xJ Ci) 3000 auP (by kernel_rfl)
def QG:Ct:=⟨[.agg [kU,kU,kU,kU]],[.agg [kU,kU]]⟩
def ac7:vU SV :=
 (.leaf (.agg [aH,aG]))
theorem auR:xe (ctx E0) 3000 177 (wN QG.a (wM 0 (vV QG.a))) (vV QG.a).length=ac7:=by kernel_rfl
def IL:List Int->List Int:=wE (wD E0) QG ac7
theorem auS:wK prog gG ⟨177,QG,IL⟩:=xI (xJ Ci) 3000 auR (by kernel_rfl)
def QH:Ct:=⟨[.agg [kU,kU,kU,kU]],[.agg [kU,kU]]⟩
def ac8:vU SV :=
 (.leaf (.agg [aJ,aK]))
theorem auT:xe (ctx E0) 3000 241 (wN QH.a (wM 0 (vV QH.a))) (vV QH.a).length=ac8:=by kernel_rfl
def IM:List Int->List Int:=wE (wD E0) QH ac8
theorem auU:wK prog gG ⟨241,QH,IM⟩:=xI (xJ Ci) 3000 auT (by kernel_rfl)
def QI:Ct:=⟨[.agg [kU,kU,kU,kU]],[.sc .bool]⟩
def ac9:vU SV :=
 (.leaf (.bool (.and af (.and ah (.and (.bin .eql .u64 az ae) (.and (.bin .eql .u64 ay ae) ai))))))
theorem auV:xe (ctx E0) 3000 132 (wN QI.a (wM 0 (vV QI.a))) (vV QI.a).length=ac9:=by kernel_rfl
def Fp:List Int->List Int:=wE (wD E0) QI ac9
theorem auW:wK prog gG ⟨132,QI,Fp⟩:=xI (xJ Ci) 3000 auV (by kernel_rfl)
def NB:Ct:=⟨[.agg [kU,kU],.sc kI],[.agg [kU,kU]]⟩
def adc:vU SV :=
 (.leaf (.agg [(.int .u64 (.bin .or .u64 (.bin .shl .u64 (.ite (.bin .lss .i64 aS ae) ae (.ite (.bin .eql .i64 aS ae) ag aa)) aT) (.bin .shr .u64 (.bin .shr .u64 (.ite (.bin .lss .i64 (.bin .sub .i64 aS ai) ae) ae ag) ai) aU))),(.int .u64 (.bin .or .u64 (.bin .shl .u64 (.ite (.bin .lss .i64 (.bin .sub .i64 ae aR) ae) ae ag) aT) (.bin .shr .u64 ae aU)))]))
theorem auX:xe (ctx E0) 3000 43 (wN NB.a (wM 0 (vV NB.a))) (vV NB.a).length=adc:=by kernel_rfl
def BO:List Int->List Int:=wE (wD E0) NB adc
theorem ajQ:wK prog gG ⟨43,NB,BO⟩:=xI (xJ Ci) 3000 auX (by kernel_rfl)
def QJ:Ct:=⟨[.agg [kU,kU],.sc kI],[.agg [kU,kU]]⟩
def ade:vU SV :=
 (.leaf (.agg [(.int .u64 (.bin .or .u64 (.bin .shl .u64 (.ite (.bin .geq .i64 aX aY) ae aa) aZ) (.bin .shr .u64 (.bin .shr .u64 (.ite (.bin .geq .i64 bf aY) ae (.ite (.bin .eql .i64 bf ae) ag aa)) ai) bg))),(.int .u64 (.bin .or .u64 (.bin .shl .u64 (.ite (.bin .geq .i64 bi aY) ae (.ite (.bin .eql .i64 bi ae) ag aa)) aZ) (.bin .shr .u64 (.bin .shr .u64 (.ite (.bin .lss .i64 bq ae) ae (.ite (.bin .eql .i64 bq ae) ag aa)) ai) bg)))]))
theorem auY:xe (ctx E0) 3000 41 (wN QJ.a (wM 0 (vV QJ.a))) (vV QJ.a).length=ade:=by kernel_rfl
def JR:List Int->List Int:=wE (wD E0) QJ ade
theorem auZ:wK prog gG ⟨41,QJ,JR⟩:=xI (xJ Ci) 3000 auY (by kernel_rfl)
def QK:Ct:=⟨[.agg [kU,kU,kU,kU],.sc kI],[.agg [kU,kU,kU,kU]]⟩
def adf:vU SV :=
 (.leaf (.agg [(.int .u64 (.bin .or .u64 (.bin .shl .u64 (.ite (.bin .lss .i64 (.bin .sub .i64 ae bG) ae) ae aa) bH) (.bin .shr .u64 ae bI))),(.int .u64 (.bin .or .u64 (.bin .shl .u64 (.ite (.bin .lss .i64 bJ ae) ae (.ite (.bin .eql .i64 bJ ae) aa ag)) bH) (.bin .shr .u64 (.bin .shr .u64 (.ite (.bin .lss .i64 (.bin .sub .i64 bJ ai) ae) ae aa) ai) bI))),(.int .u64 (.bin .or .u64 (.bin .shl .u64 (.ite (.bin .lss .i64 bK ae) ae (.ite (.bin .eql .i64 bK ae) aa (.ite (.bin .eql .i64 bK ai) ag az))) bH) (.bin .shr .u64 (.bin .shr .u64 (.ite (.bin .lss .i64 bL ae) ae (.ite (.bin .eql .i64 bL ae) aa ag)) ai) bI))),(.int .u64 (.bin .or .u64 (.bin .shl .u64 (.ite (.bin .lss .i64 bT ae) ae (.ite (.bin .eql .i64 bT ae) aa (.ite (.bin .eql .i64 bT ai) ag (.ite (.bin .eql .i64 bT aY) az ay)))) bH) (.bin .shr .u64 (.bin .shr .u64 (.ite (.bin .lss .i64 bU ae) ae (.ite (.bin .eql .i64 bU ae) aa (.ite (.bin .eql .i64 bU ai) ag az))) ai) bI)))]))
theorem au0:xe (ctx E0) 3000 148 (wN QK.a (wM 0 (vV QK.a))) (vV QK.a).length=adf:=by kernel_rfl
def QL:List Int->List Int:=wE (wD E0) QK adf
theorem au1:wK prog gG ⟨148,QK,QL⟩:=xI (xJ Ci) 3000 au0 (by kernel_rfl)
def QM:Ct:=⟨[.agg [kU,kU,kU,kU],.sc kI],[.agg [kU,kU,kU,kU]]⟩
def adg:vU SV :=
 (.leaf (.agg [(.int .u64 (.bin .or .u64 (.bin .shl .u64 (.ite (.bin .geq .i64 cz cO) ae (.ite (.bin .eql .i64 cz ae) aa (.ite (.bin .eql .i64 cz ai) ag (.ite (.bin .eql .i64 cz aY) az ay)))) df) (.bin .shr .u64 (.bin .shr .u64 (.ite (.bin .lss .i64 dh ae) ae (.ite (.bin .eql .i64 dh ae) aa (.ite (.bin .eql .i64 dh ai) ag (.ite (.bin .eql .i64 dh aY) az ay)))) ai) di))),(.int .u64 (.bin .or .u64 (.bin .shl .u64 (.ite (.bin .geq .i64 dw cO) ae (.ite (.bin .eql .i64 dw ai) ag (.ite (.bin .eql .i64 dw aY) az ay))) df) (.bin .shr .u64 (.bin .shr .u64 (.ite (.bin .geq .i64 dx cO) ae (.ite (.bin .eql .i64 dx ae) aa (.ite (.bin .eql .i64 dx ai) ag (.ite (.bin .eql .i64 dx aY) az ay)))) ai) di))),(.int .u64 (.bin .or .u64 (.bin .shl .u64 (.ite (.bin .geq .i64 dz cO) ae (.ite (.bin .eql .i64 dz aY) az ay)) df) (.bin .shr .u64 (.bin .shr .u64 (.ite (.bin .geq .i64 dA cO) ae (.ite (.bin .eql .i64 dA ai) ag (.ite (.bin .eql .i64 dA aY) az ay))) ai) di))),(.int .u64 (.bin .or .u64 (.bin .shl .u64 (.ite (.bin .geq .i64 dC cO) ae ay) df) (.bin .shr .u64 (.bin .shr .u64 (.ite (.bin .geq .i64 dD cO) ae (.ite (.bin .eql .i64 dD aY) az ay)) ai) di)))]))
theorem au2:xe (ctx E0) 3000 150 (wN QM.a (wM 0 (vV QM.a))) (vV QM.a).length=adg:=by kernel_rfl
def Fq:List Int->List Int:=wE (wD E0) QM adg
theorem au3:wK prog gG ⟨150,QM,Fq⟩:=xI (xJ Ci) 3000 au2 (by kernel_rfl)
def QN:Ct:=⟨[.agg [kU,kU,kU,kU]],[.sc kI]⟩
def adh:vU SV :=
 (.ite (.bin .neq .u64 ay ae) (.call 263 [ay] 4 1 (.leaf (.int .i64 (.bin .add .i64 (.lit 192) bu)))) (.ite (.bin .neq .u64 az ae) (.call 263 [az] 4 1 (.leaf (.int .i64 (.bin .add .i64 aM bu)))) (.ite (.bin .neq .u64 ag ae) (.call 263 [ag] 4 1 (.leaf (.int .i64 (.bin .add .i64 (.lit 64) bu)))) (.ite (.bin .neq .u64 aa ae) (.call 263 [aa] 4 1 (.leaf (.int .i64 (.bin .add .i64 ae bu)))) (.leaf dE)))))
theorem au4:xe (ctx E0) 3000 176 (wN QN.a (wM 0 (vV QN.a))) (vV QN.a).length=adh:=by kernel_rfl
def QO:List Int->List Int:=wE (wD E0) QN adh
theorem au5:wK prog gG ⟨176,QN,QO⟩:=xI (xJ Ci) 3000 au4 (by kernel_rfl)
def QP:Ct:=⟨[.sc kB],[.agg [kI,kI,kI]]⟩
def adi:vU SV :=
 (.ite dH (.leaf (.agg [dE,dE,dE])) (.ite (.bin .eql .i64 dF ae) (.leaf (.agg [(.int .i64 (.lit 16)),(.int .i64 (.lit 11)),(.int .i64 (.lit 15))])) (.ite (.bin .eql .i64 dF ai) (.leaf (.agg [(.int .i64 (.lit 32)),(.int .i64 (.lit 24)),(.int .i64 (.lit 127))])) (.ite (.bin .eql .i64 dF aY) (.leaf (.agg [(.int .i64 (.lit 64)),(.int .i64 (.lit 53)),dI])) (.leaf (.agg [(.int .i64 aM),(.int .i64 (.lit 113)),dJ]))))))
theorem au6:xe (ctx E0) 3000 40 (wN QP.a (wM 0 (vV QP.a))) (vV QP.a).length=adi:=by kernel_rfl
def IP:List Int->List Int:=wE (wD E0) QP adi
theorem au7:wK prog gG ⟨40,QP,IP⟩:=xI (xJ Ci) 3000 au6 (by kernel_rfl)
def QQ:Ct:=⟨[.sc kB,.sc .bool],[.sc .bool]⟩
def adj:vU SV :=
 (.call 243 [dF,dK,ai,bP] 2 1 (.leaf (.bool dL)))
theorem au8:xe (ctx E0) 3000 247 (wN QQ.a (wM 0 (vV QQ.a))) (vV QQ.a).length=adj:=by kernel_rfl
def QR:List Int->List Int:=wE (wD E0) QQ adj
theorem au9:wK prog gG ⟨247,QQ,QR⟩:=xI (xJ Ci) 3000 au8 (by kernel_rfl)
def QS:Ct:=⟨[.agg [.bool,kB,kI,kU,kU],.agg [.bool,kB,kI,kU,kU]],[.sc .bool]⟩
def adk:vU SV :=
 (.ite (.bin .geq .i64 (.ite (.bin .eql .u8 dM ae) ae (.ite dP ai dQ)) ae) (.leaf (.bool (.bin .geq .i64 (.ite dR ae (.ite dS ai dQ)) ae))) av)
theorem ava:xe (ctx E0) 3000 142 (wN QS.a (wM 0 (vV QS.a))) (vV QS.a).length=adk:=by kernel_rfl
def JS:List Int->List Int:=wE (wD E0) QS adk
theorem avb:wK prog gG ⟨142,QS,JS⟩:=xI (xJ Ci) 3000 ava (by kernel_rfl)
def E1:List wY:=⟨48,NA,Qx⟩::⟨42,Qy,IK⟩::⟨44,Qz,Eb⟩::⟨229,QA,QB⟩::⟨268,QC,QD⟩::⟨147,QE,Gh⟩::⟨152,QF,ajP⟩::⟨177,QG,IL⟩::⟨241,QH,IM⟩::⟨132,QI,Fp⟩::⟨43,NB,BO⟩::⟨41,QJ,JR⟩::⟨148,QK,QL⟩::⟨150,QM,Fq⟩::⟨176,QN,QO⟩::⟨40,QP,IP⟩::⟨247,QQ,QR⟩::⟨142,QS,JS⟩::E0
theorem Hw:∀ e∈E1,wK prog gG e:=List.forall_mem_cons.2 ⟨ajN,List.forall_mem_cons.2 ⟨auG,List.forall_mem_cons.2 ⟨auI,List.forall_mem_cons.2 ⟨auK,List.forall_mem_cons.2 ⟨auM,List.forall_mem_cons.2 ⟨auO,List.forall_mem_cons.2 ⟨auQ,List.forall_mem_cons.2 ⟨auS,List.forall_mem_cons.2 ⟨auU,List.forall_mem_cons.2 ⟨auW,List.forall_mem_cons.2 ⟨ajQ,List.forall_mem_cons.2 ⟨auZ,List.forall_mem_cons.2 ⟨au1,List.forall_mem_cons.2 ⟨au3,List.forall_mem_cons.2 ⟨au5,List.forall_mem_cons.2 ⟨au7,List.forall_mem_cons.2 ⟨au9,List.forall_mem_cons.2 ⟨avb,Ci⟩⟩⟩⟩⟩⟩⟩⟩⟩⟩⟩⟩⟩⟩⟩⟩⟩⟩
theorem ajR:wD E0 75=M6:=wZ (e:=⟨75,_,M6⟩) rfl
theorem ajS:wD E0 228=M7:=wZ (e:=⟨228,_,M7⟩) rfl
theorem avc:wD E0 288=PI:=wZ (e:=⟨288,_,PI⟩) rfl
theorem X4:wD E0 263=JD:=wZ (e:=⟨263,_,JD⟩) rfl
theorem avd:wD E0 243=JF:=wZ (e:=⟨243,_,JF⟩) rfl
def QT:Ct:=⟨[.sc kB],[.sc kI]⟩
def adl:vU SV :=
 (.call 40 dU 1 3 (.leaf (.int .i64 dW)))
theorem ave:xe (ctx E1) 3000 49 (wN QT.a (wM 0 (vV QT.a))) (vV QT.a).length=adl:=by kernel_rfl
def Gi:List Int->List Int:=wE (wD E1) QT adl
theorem avf:wK prog gG ⟨49,QT,Gi⟩:=xI (xJ Hw) 3000 ave (by kernel_rfl)
def QU:Ct:=⟨[.sc kB],[.sc kI]⟩
def adm:vU SV :=
 (.call 40 dU 1 3 (.leaf (.int .i64 aj)))
theorem avg:xe (ctx E1) 3000 50 (wN QU.a (wM 0 (vV QU.a))) (vV QU.a).length=adm:=by kernel_rfl
def Gj:List Int->List Int:=wE (wD E1) QU adm
theorem avh:wK prog gG ⟨50,QU,Gj⟩:=xI (xJ Hw) 3000 avg (by kernel_rfl)
def LP:Ct:=⟨[.sc kB],[.sc kI]⟩
def adn:vU SV :=
 (.call 40 dU 1 3 (.leaf (.int .i64 dX)))
theorem avi:xe (ctx E1) 3000 28 (wN LP.a (wM 0 (vV LP.a))) (vV LP.a).length=adn:=by kernel_rfl
def NC:List Int->List Int:=wE (wD E1) LP adn
theorem ajT:wK prog gG ⟨28,LP,NC⟩:=xI (xJ Hw) 3000 avi (by kernel_rfl)
def QV:Ct:=⟨[.agg [kU,kU],.sc kI],[.agg [kU,kU]]⟩
def ado:vU SV :=
 (.call 43 [aa,ag,dY] 3 2 (.call 41 [ay,aC,dY] 5 2 eD))
theorem avj:xe (ctx E1) 3000 27 (wN QV.a (wM 0 (vV QV.a))) (vV QV.a).length=ado:=by kernel_rfl
def JU:List Int->List Int:=wE (wD E1) QV ado
theorem avk:wK prog gG ⟨27,QV,JU⟩:=xI (xJ Hw) 3000 avj (by kernel_rfl)
def ND:Ct:=⟨[.agg [kU,kU],.agg [kU,kU]],[.agg [kU,kU,kU,kU]]⟩
def adp:vU SV :=
 (.call 268 [aa,az] 4 2 (.call 268 [ag,ay] 6 2 (.call 147 eG 8 4 (.call 268 [aa,ay] 12 2 (.call 268 [ag,az] 14 2 (.call 157 [eH,eO,eQ,eT,ae,eU,eX,ae] 16 5 (.call 157 [eZ,fe,fq,fu,ae,fw,fA,ae] 21 5 (.leaf (.agg [fC,fG,fI,(.int .u64 fJ)])))))))))
theorem avl:xe (ctx E1) 3000 218 (wN ND.a (wM 0 (vV ND.a))) (vV ND.a).length=adp:=by kernel_rfl
def NE:List Int->List Int:=wE (wD E1) ND adp
theorem ajU:wK prog gG ⟨218,ND,NE⟩:=xI (xJ Hw) 3000 avl (by kernel_rfl)
def QW:Ct:=⟨[.agg [kU,kU]],[.agg [kU,kU],.sc kI]⟩
def adq:vU SV :=
 (.call 147 [aa,ag,ae,ae] 2 4 (.call 176 [az,ay,aC,dZ] 6 1 (.ite (.bin .eql .i64 fK ae) (.call 177 [az,ay,aC,dZ] 7 2 (.leaf (.tup [(.agg [fM,fO]),dE]))) (.call 148 [az,ay,aC,dZ,fQ] 7 4 (.call 177 [eF,eH,eO,eQ] 11 2 (.leaf (.tup [(.agg [fT,fV]),(.int .i64 fQ)])))))))
theorem avm:xe (ctx E1) 3000 121 (wN QW.a (wM 0 (vV QW.a))) (vV QW.a).length=adq:=by kernel_rfl
def QX:List Int->List Int:=wE (wD E1) QW adq
theorem avn:wK prog gG ⟨121,QW,QX⟩:=xI (xJ Hw) 3000 avm (by kernel_rfl)
def QY:Ct:=⟨[.agg [kU,kU,kU,kU],.sc kI],[.sc .bool]⟩
def adr:vU SV :=
 (.call 150 fZ 5 4 (.call 148 [dZ,aA,eF,eH,bu] 9 4 (.leaf (.bool (.not (.and (.bin .eql .u64 eO aa) (.and (.bin .eql .u64 eQ ag) (.and (.bin .eql .u64 eT az) (.and (.bin .eql .u64 eX ay) ai)))))))))
theorem avo:xe (ctx E1) 3000 239 (wN QY.a (wM 0 (vV QY.a))) (vV QY.a).length=adr:=by kernel_rfl
def JV:List Int->List Int:=wE (wD E1) QY adr
theorem avp:wK prog gG ⟨239,QY,JV⟩:=xI (xJ Hw) 3000 avo (by kernel_rfl)
def QZ:Ct:=⟨[.agg [kU,kU,kU,kU]],[.agg [kU,kU,kU,kU],.sc kI]⟩
def ads:vU SV :=
 (.call 176 gm 4 1 (.ite gp (.leaf (.tup [(.agg [aK,aJ,aG,aH]),dE])) (.call 148 [aa,ag,az,ay,gq] 5 4 (.leaf (.tup [gy,(.int .i64 gq)])))))
theorem avq:xe (ctx E1) 3000 240 (wN QZ.a (wM 0 (vV QZ.a))) (vV QZ.a).length=ads:=by kernel_rfl
def Q9:List Int->List Int:=wE (wD E1) QZ ads
theorem avr:wK prog gG ⟨240,QZ,Q9⟩:=xI (xJ Hw) 3000 avq (by kernel_rfl)
def LQ:Ct:=⟨[.agg [kU,kU],.sc kU,.agg [kU,kU]],[.agg [kU,kU],.sc .bool]⟩
def adt:vU SV :=
 (.call 44 [aa,ag,aa,ag] 5 3 (.call 229 [dZ,(.bin .or .u64 aA az),ay,aC] 8 3 (.ite gz gH (.ite (.not gI) gH (.leaf (.tup [(.agg [ed,(.int .u64 (.bin .or .u64 aA az))]),au]))))))
theorem avs:xe (ctx E1) 3000 220 (wN LQ.a (wM 0 (vV LQ.a))) (vV LQ.a).length=adt:=by kernel_rfl
def NF:List Int->List Int:=wE (wD E1) LQ adt
theorem X5:wK prog gG ⟨220,LQ,NF⟩:=xI (xJ Hw) 3000 avs (by kernel_rfl)
def NG:Ct:=⟨[.agg [kU,kU],.agg [kU,kU]],[.sc kI]⟩
def adu:vU SV :=
 (.leaf (.int .i64 (.ite (.bin .neq .i64 gK ae) gK (.ite (.bin .neq .i64 gM ae) gM ae))))
theorem avt:xe (ctx E1) 3000 156 (wN NG.a (wM 0 (vV NG.a))) (vV NG.a).length=adu:=by kernel_rfl
def NH:List Int->List Int:=wE (wD E1) NG adu
theorem ajV:wK prog gG ⟨156,NG,NH⟩:=xI (xJ Hw) 3000 avt (by kernel_rfl)
def E2:List wY:=⟨49,QT,Gi⟩::⟨50,QU,Gj⟩::⟨28,LP,NC⟩::⟨27,QV,JU⟩::⟨218,ND,NE⟩::⟨121,QW,QX⟩::⟨239,QY,JV⟩::⟨240,QZ,Q9⟩::⟨220,LQ,NF⟩::⟨156,NG,NH⟩::E1
theorem NI:∀ e∈E2,wK prog gG e:=List.forall_mem_cons.2 ⟨avf,List.forall_mem_cons.2 ⟨avh,List.forall_mem_cons.2 ⟨ajT,List.forall_mem_cons.2 ⟨avk,List.forall_mem_cons.2 ⟨ajU,List.forall_mem_cons.2 ⟨avn,List.forall_mem_cons.2 ⟨avp,List.forall_mem_cons.2 ⟨avr,List.forall_mem_cons.2 ⟨X5,List.forall_mem_cons.2 ⟨ajV,Hw⟩⟩⟩⟩⟩⟩⟩⟩⟩⟩
theorem adv:wD E1 40=IP:=wZ (e:=⟨40,_,IP⟩) rfl
theorem avu:wD E1 43=BO:=wZ (e:=⟨43,_,BO⟩) rfl
theorem avv:wD E1 41=JR:=wZ (e:=⟨41,_,JR⟩) rfl
theorem X6:wD E1 268=QD:=wZ (e:=⟨268,_,QD⟩) rfl
theorem ajW:wD E1 147=Gh:=wZ (e:=⟨147,_,Gh⟩) rfl
theorem ajX:wD E1 157=Iy:=wZ (e:=⟨157,_,Iy⟩) rfl
theorem ajY:wD E1 176=QO:=wZ (e:=⟨176,_,QO⟩) rfl
theorem ajZ:wD E1 177=IL:=wZ (e:=⟨177,_,IL⟩) rfl
theorem adw:wD E1 148=QL:=wZ (e:=⟨148,_,QL⟩) rfl
theorem avw:wD E1 150=Fq:=wZ (e:=⟨150,_,Fq⟩) rfl
theorem avx:wD E1 44=Eb:=wZ (e:=⟨44,_,Eb⟩) rfl
theorem avy:wD E1 229=QB:=wZ (e:=⟨229,_,QB⟩) rfl
def Ra:Ct:=⟨[.sc kB,.agg [kU,kU]],[.agg [kU,kU]]⟩
def adx:vU SV :=
 (.call 28 dU 3 1 (.call 27 [ag,az,dW] 4 2 (.leaf (.agg [aD,ed]))))
theorem avz:xe (ctx E2) 3000 8 (wN Ra.a (wM 0 (vV Ra.a))) (vV Ra.a).length=adx:=by kernel_rfl
def Dp:List Int->List Int:=wE (wD E2) Ra adx
theorem avA:wK prog gG ⟨8,Ra,Dp⟩:=xI (xJ NI) 3000 avz (by kernel_rfl)
def Rb:Ct:=⟨[.sc kB,.sc .bool,.sc kI,.agg [kU,kU]],[.agg [kU,kU]]⟩
def ady:vU SV :=
 (.call 40 dU 5 3 (.ite (.bin .eql .i64 gP ae) (.leaf gQ) (.ite ak iw (.ite (.bin .gtr .i64 aj (.lit 1048576)) iw (.call 27 [ae,(.conv .u64 aj),gT] 8 2 iq)))))
theorem avB:xe (ctx E2) 3000 18 (wN Rb.a (wM 0 (vV Rb.a))) (vV Rb.a).length=ady:=by kernel_rfl
def Rc:List Int->List Int:=wE (wD E2) Rb ady
theorem avC:wK prog gG ⟨18,Rb,Rc⟩:=xI (xJ NI) 3000 avB (by kernel_rfl)
def Re:Ct:=⟨[.sc kB,.sc kI],[.sc .bool]⟩
def adz:vU SV :=
 (.ite dG (.call 49 dU 2 1 (.leaf (.bool (.bin .gtr .i64 dX aj)))) av)
theorem avD:xe (ctx E2) 3000 186 (wN Re.a (wM 0 (vV Re.a))) (vV Re.a).length=adz:=by kernel_rfl
def Rf:List Int->List Int:=wE (wD E2) Re adz
theorem avE:wK prog gG ⟨186,Re,Rf⟩:=xI (xJ NI) 3000 avD (by kernel_rfl)
def Rh:Ct:=⟨[.agg [kU,kU,kU,kU],.sc kI],[.agg [kU,kU,kU,kU]]⟩
def adA:vU SV :=
 (.call 150 fZ 5 4 (.call 239 fZ 9 1 (.ite iy (.leaf (.agg [(.int .u64 (.bin .or .u64 dZ ai)),aB,fM,fO])) (.leaf gy))))
theorem avF:xe (ctx E2) 3000 188 (wN Rh.a (wM 0 (vV Rh.a))) (vV Rh.a).length=adA:=by kernel_rfl
def Fs:List Int->List Int:=wE (wD E2) Rh adA
theorem avG:wK prog gG ⟨188,Rh,Fs⟩:=xI (xJ NI) 3000 avF (by kernel_rfl)
def Ri:Ct:=⟨[.agg [kU,kU,kU,kU],.sc kI],[.sc kB]⟩
def adB:vU SV :=
 (.ite iD (.leaf iF) (.ite iG (.leaf iF) (.call 239 [aa,ag,az,ay,iI] 5 1 (.leaf (.int .u8 (.ite (.ite (.bin .eql .i64 (.bin .shr .i64 iI aQ) aY) (.bin .eql .u64 (.bin .and .u64 (.bin .shr .u64 az iJ) ai) ai) (.bin .eql .u64 (.bin .and .u64 (.bin .shr .u64 ay iJ) ai) ai)) (.ite iK bP aY) (.ite iK ai ae)))))))
theorem avH:xe (ctx E2) 3000 242 (wN Ri.a (wM 0 (vV Ri.a))) (vV Ri.a).length=adB:=by kernel_rfl
def Rj:List Int->List Int:=wE (wD E2) Ri adB
theorem avI:wK prog gG ⟨242,Ri,Rj⟩:=xI (xJ NI) 3000 avH (by kernel_rfl)
def JW:Ct:=⟨[.agg [.bool,kB,kI,kU,kU],.agg [.bool,kB,kI,kU,kU]],[.sc kI,.agg [kU,kU,kU,kU]]⟩
def adC:vU SV :=
 (.ite (.bin .neq .u8 dM ai) (.ite (.bin .neq .u8 dM aY) iL iR) iR)
theorem avJ:xe (ctx E2) 3000 144 (wN JW.a (wM 0 (vV JW.a))) (vV JW.a).length=adC:=by kernel_rfl
def JX:List Int->List Int:=wE (wD E2) JW adC
theorem avK:wK prog gG ⟨144,JW,JX⟩:=xI (xJ NI) 3000 avJ (by kernel_rfl)
def E3:List wY:=⟨8,Ra,Dp⟩::⟨18,Rb,Rc⟩::⟨186,Re,Rf⟩::⟨188,Rh,Fs⟩::⟨242,Ri,Rj⟩::⟨144,JW,JX⟩::E2
theorem LU:∀ e∈E3,wK prog gG e:=List.forall_mem_cons.2 ⟨avA,List.forall_mem_cons.2 ⟨avC,List.forall_mem_cons.2 ⟨avE,List.forall_mem_cons.2 ⟨avG,List.forall_mem_cons.2 ⟨avI,List.forall_mem_cons.2 ⟨avK,NI⟩⟩⟩⟩⟩⟩
theorem avL:wD E2 28=NC:=wZ (e:=⟨28,_,NC⟩) rfl
theorem UM:wD E2 27=JU:=wZ (e:=⟨27,_,JU⟩) rfl
theorem avM:wD E2 40=IP:=wZ (e:=⟨40,_,IP⟩) rfl
theorem Rk:wD E2 43=BO:=wZ (e:=⟨43,_,BO⟩) rfl
theorem Rl:wD E2 44=Eb:=wZ (e:=⟨44,_,Eb⟩) rfl
theorem avN:wD E2 49=Gi:=wZ (e:=⟨49,_,Gi⟩) rfl
theorem avO:wD E2 150=Fq:=wZ (e:=⟨150,_,Fq⟩) rfl
theorem aj0:wD E2 239=JV:=wZ (e:=⟨239,_,JV⟩) rfl
theorem avP:wD E2 218=NE:=wZ (e:=⟨218,_,NE⟩) rfl
def Rm:Ct:=⟨[.sc kB,.sc .bool],[.agg [kU,kU]]⟩
def adD:vU SV :=
 (.call 18 [dF,dK,ae,ae,ae] 2 2 (.leaf (.agg [aG,aH])))
theorem avQ:xe (ctx E3) 3000 149 (wN Rm.a (wM 0 (vV Rm.a))) (vV Rm.a).length=adD:=by kernel_rfl
def Rn:List Int->List Int:=wE (wD E3) Rm adD
theorem avR:wK prog gG ⟨149,Rm,Rn⟩:=xI (xJ LU) 3000 avQ (by kernel_rfl)
def Ro:Ct:=⟨[.sc kB,.sc .bool],[.agg [kU,kU]]⟩
def adE:vU SV :=
 (.call 49 dU 2 1 (.call 18 [dF,dK,(.bin .add .i64 iT ai),ae,ae] 3 2 iU))
theorem avS:xe (ctx E3) 3000 78 (wN Ro.a (wM 0 (vV Ro.a))) (vV Ro.a).length=adE:=by kernel_rfl
def Gm:List Int->List Int:=wE (wD E3) Ro adE
theorem avT:wK prog gG ⟨78,Ro,Gm⟩:=xI (xJ LU) 3000 avS (by kernel_rfl)
def Rp:Ct:=⟨[.sc kB,.sc .bool],[.agg [kU,kU]]⟩
def adF:vU SV :=
 (.call 49 dU 2 1 (.call 18 [dF,dK,iT,iV,iV] 3 2 iU))
theorem avU:xe (ctx E3) 3000 245 (wN Rp.a (wM 0 (vV Rp.a))) (vV Rp.a).length=adF:=by kernel_rfl
def Rq:List Int->List Int:=wE (wD E3) Rp adF
theorem avV:wK prog gG ⟨245,Rp,Rq⟩:=xI (xJ LU) 3000 avU (by kernel_rfl)
def Rs:Ct:=⟨[.sc kB,.agg [kU,kU]],[.sc .bool,.sc kI,.agg [kU,kU]]⟩
def adG:vU SV :=
 (.call 40 dU 3 3 (.ite iW (.leaf (.tup [au,dE,gQ])) (.call 8 iX 6 2 (.call 41 [aA,eF,iZ] 8 2 (.call 42 [ag,az,(.bin .sub .i64 dW ai)] 10 1 (.call 27 [eH,eO,(.bin .sub .i64 dW bu)] 11 2 (.call 27 [ag,az,iZ] 13 2 (.leaf (.tup [(.bool gI),(.int .i64 (.conv .i64 eX)),(.agg [iO,ik])])))))))))
theorem avW:xe (ctx E3) 3000 17 (wN Rs.a (wM 0 (vV Rs.a))) (vV Rs.a).length=adG:=by kernel_rfl
def JY:List Int->List Int:=wE (wD E3) Rs adG
theorem avX:wK prog gG ⟨17,Rs,JY⟩:=xI (xJ LU) 3000 avW (by kernel_rfl)
def Rt:Ct:=⟨[.sc kB,.sc .bool,.sc kI,.agg [kU,kU]],[.agg [kU,kU]]⟩
def adH:vU SV :=
 (.ite (.bin .eql .i64 aj ae) (.call 50 dU 5 1 (.call 42 [ay,aC,gY] 6 1 (.ite ja (.call 18 [dF,dK,ai,ay,aC] 7 2 jb) (.call 18 [dF,dK,aj,ay,aC] 7 2 jb)))) (.call 18 [dF,dK,aj,ay,aC] 5 2 eD))
theorem avY:xe (ctx E3) 3000 189 (wN Rt.a (wM 0 (vV Rt.a))) (vV Rt.a).length=adH:=by kernel_rfl
def IQ:List Int->List Int:=wE (wD E3) Rt adH
theorem avZ:wK prog gG ⟨189,Rt,IQ⟩:=xI (xJ LU) 3000 avY (by kernel_rfl)
def Ru:Ct:=⟨[.sc kB],[.agg [kU,kU]]⟩
def adI:vU SV :=
 (.call 49 dU 1 1 (.call 50 dU 2 1 (.call 43 [ae,ai,(.bin .sub .i64 aj aY)] 3 2 (.call 18 [dF,ae,(.bin .add .i64 (.bin .mul .i64 aY dX) ai),ay,aC] 5 2 eD))))
theorem av0:xe (ctx E3) 3000 124 (wN Ru.a (wM 0 (vV Ru.a))) (vV Ru.a).length=adI:=by kernel_rfl
def IR:List Int->List Int:=wE (wD E3) Ru adI
theorem av1:wK prog gG ⟨124,Ru,IR⟩:=xI (xJ LU) 3000 av0 (by kernel_rfl)
def Rv:Ct:=⟨[.agg [kU,kU,kU,kU],.sc kI,.sc kB,.sc .bool],[.agg [kU,kU],.sc .bool]⟩
def adJ:vU SV :=
 (.ite iD jc (.ite iG jc (.ite (.not (.bin .leq .u8 (.var kB 5) cO)) jc (.call 150 [aa,ag,az,ay,gq] 7 4 (.call 241 [eF,eH,eO,eQ] 11 2 (.call 242 fZ 13 1 (.call 243 [(.var kB 5),ja,(.bin .eql .u64 (.bin .and .u64 eX ai) ai),jd] 14 1 (.ite je (.call 44 [eT,eX,ae,ai] 15 3 (.leaf (.tup [(.agg [il,jf]),jg]))) (.leaf (.tup [(.agg [fT,fV]),jg]))))))))))
theorem av2:xe (ctx E3) 3000 184 (wN Rv.a (wM 0 (vV Rv.a))) (vV Rv.a).length=adJ:=by kernel_rfl
def LV:List Int->List Int:=wE (wD E3) Rv adJ
theorem av3:wK prog gG ⟨184,Rv,LV⟩:=xI (xJ LU) 3000 av2 (by kernel_rfl)
def E4:List wY:=⟨149,Rm,Rn⟩::⟨78,Ro,Gm⟩::⟨245,Rp,Rq⟩::⟨17,Rs,JY⟩::⟨189,Rt,IQ⟩::⟨124,Ru,IR⟩::⟨184,Rv,LV⟩::E3
theorem UN:∀ e∈E4,wK prog gG e:=List.forall_mem_cons.2 ⟨avR,List.forall_mem_cons.2 ⟨avT,List.forall_mem_cons.2 ⟨avV,List.forall_mem_cons.2 ⟨avX,List.forall_mem_cons.2 ⟨avZ,List.forall_mem_cons.2 ⟨av1,List.forall_mem_cons.2 ⟨av3,LU⟩⟩⟩⟩⟩⟩⟩
theorem LW:wD E3 18=Rc:=wZ (e:=⟨18,_,Rc⟩) rfl
theorem adK:wD E3 49=Gi:=wZ (e:=⟨49,_,Gi⟩) rfl
theorem av4:wD E3 40=IP:=wZ (e:=⟨40,_,IP⟩) rfl
theorem av5:wD E3 8=Dp:=wZ (e:=⟨8,_,Dp⟩) rfl
theorem av6:wD E3 41=JR:=wZ (e:=⟨41,_,JR⟩) rfl
theorem aj1:wD E3 42=IK:=wZ (e:=⟨42,_,IK⟩) rfl
theorem aj2:wD E3 27=JU:=wZ (e:=⟨27,_,JU⟩) rfl
theorem aj3:wD E3 50=Gj:=wZ (e:=⟨50,_,Gj⟩) rfl
theorem aj4:wD E3 43=BO:=wZ (e:=⟨43,_,BO⟩) rfl
theorem av7:wD E3 150=Fq:=wZ (e:=⟨150,_,Fq⟩) rfl
theorem av8:wD E3 241=IM:=wZ (e:=⟨241,_,IM⟩) rfl
theorem av9:wD E3 242=Rj:=wZ (e:=⟨242,_,Rj⟩) rfl
theorem awc:wD E3 243=JF:=wZ (e:=⟨243,_,JF⟩) rfl
theorem awd:wD E3 44=Eb:=wZ (e:=⟨44,_,Eb⟩) rfl
def Rw:Ct:=⟨[.sc kB,.agg [kU,kU]],[.sc kB,.sc .bool]⟩
def adL:vU SV :=
 (.ite dH (.leaf (.tup [iF,au])) (.call 17 iX 3 4 (.call 48 [dZ,aA] 7 1 (.call 49 dU 8 1 (.ite gp (.ite gz (.leaf (.tup [iF,ji])) (.leaf (.tup [jk,ji]))) (.ite (.bin .lss .i64 bu (.bin .add .i64 (.bin .mul .i64 aY jl) ai)) (.leaf (.tup [jm,ji])) (.ite gz (.leaf (.tup [jo,ji])) (.call 50 dU 9 1 (.call 42 [dZ,aA,(.bin .sub .i64 jq aY)] 10 1 (.ite gI jr jv))))))))))
theorem awe:xe (ctx E4) 3000 20 (wN Rw.a (wM 0 (vV Rw.a))) (vV Rw.a).length=adL:=by kernel_rfl
def NJ:List Int->List Int:=wE (wD E4) Rw adL
theorem awf:wK prog gG ⟨20,Rw,NJ⟩:=xI (xJ UN) 3000 awe (by kernel_rfl)
def Rx:Ct:=⟨[.sc kB,.sc kB,.sc .bool],[.agg [kU,kU,kB]]⟩
def adM:vU SV :=
 (.ite dH jw (.ite jA jw (.call 247 [dM,dL] 3 1 (.ite jh (.call 78 [dF,dL] 4 2 jB) (.call 245 [dF,dL] 4 2 jB)))))
theorem awg:xe (ctx E4) 3000 187 (wN Rx.a (wM 0 (vV Rx.a))) (vV Rx.a).length=adM:=by kernel_rfl
def NK:List Int->List Int:=wE (wD E4) Rx adM
theorem awh:wK prog gG ⟨187,Rx,NK⟩:=xI (xJ UN) 3000 awg (by kernel_rfl)
def Ry:Ct:=⟨[.sc kB,.agg [kU,kU]],[.agg [kU,kU]]⟩
def aj5:vU SV :=
 (.call 124 dU 3 2 (.call 17 jC 5 4 (.leaf (.agg [(.int .u64 (.bin .or .u64 ag eF)),(.int .u64 (.bin .or .u64 az eH))]))))
theorem awi:xe (ctx E4) 3000 233 (wN Ry.a (wM 0 (vV Ry.a))) (vV Ry.a).length=aj5:=by kernel_rfl
def aj6:List Int->List Int:=wE (wD E4) Ry aj5
theorem awj:wK prog gG ⟨233,Ry,aj6⟩:=xI (xJ UN) 3000 awi (by kernel_rfl)
def Rz:Ct:=⟨[.sc kB,.agg [kU,kU]],[.agg [kU,kU]]⟩
def aj7:vU SV :=
 (.call 17 iX 3 4 (.call 18 [dF,(.not jh),bu,dZ,aA] 7 2 jb))
theorem awk:xe (ctx E4) 3000 45 (wN Rz.a (wM 0 (vV Rz.a))) (vV Rz.a).length=aj7:=by kernel_rfl
def aj8:List Int->List Int:=wE (wD E4) Rz aj7
theorem awl:wK prog gG ⟨45,Rz,aj8⟩:=xI (xJ UN) 3000 awk (by kernel_rfl)
def E5:List wY:=⟨20,Rw,NJ⟩::⟨187,Rx,NK⟩::⟨233,Ry,aj6⟩::⟨45,Rz,aj8⟩::E4
theorem RB:∀ e∈E5,wK prog gG e:=List.forall_mem_cons.2 ⟨awf,List.forall_mem_cons.2 ⟨awh,List.forall_mem_cons.2 ⟨awj,List.forall_mem_cons.2 ⟨awl,UN⟩⟩⟩⟩
theorem awm:wD E4 17=JY:=wZ (e:=⟨17,_,JY⟩) rfl
theorem awn:wD E4 48=Qx:=wZ (e:=⟨48,_,Qx⟩) rfl
theorem awo:wD E4 49=Gi:=wZ (e:=⟨49,_,Gi⟩) rfl
theorem awp:wD E4 50=Gj:=wZ (e:=⟨50,_,Gj⟩) rfl
theorem awq:wD E4 42=IK:=wZ (e:=⟨42,_,IK⟩) rfl
theorem awr:wD E4 247=QR:=wZ (e:=⟨247,_,QR⟩) rfl
theorem aws:wD E4 78=Gm:=wZ (e:=⟨78,_,Gm⟩) rfl
theorem awt:wD E4 245=Rq:=wZ (e:=⟨245,_,Rq⟩) rfl
def RF:Ct:=⟨[.sc kB,.agg [kU,kU]],[.sc .bool]⟩
def adN:vU SV :=
 (.call 20 iX 3 2 (.leaf (.bool (.bin .geq .u8 jD cO))))
theorem awu:xe (ctx E5) 3000 14 (wN RF.a (wM 0 (vV RF.a))) (vV RF.a).length=adN:=by kernel_rfl
def CX:List Int->List Int:=wE (wD E5) RF adN
theorem awv:wK prog gG ⟨14,RF,CX⟩:=xI (xJ RB) 3000 awu (by kernel_rfl)
def RG:Ct:=⟨[.sc kB,.agg [kU,kU]],[.sc .bool]⟩
def adO:vU SV :=
 (.call 20 iX 3 2 (.ite dG (.leaf (.bool (.bin .lss .u8 jD bP))) av))
theorem aww:xe (ctx E5) 3000 23 (wN RG.a (wM 0 (vV RG.a))) (vV RG.a).length=adO:=by kernel_rfl
def RH:List Int->List Int:=wE (wD E5) RG adO
theorem awx:wK prog gG ⟨23,RG,RH⟩:=xI (xJ RB) 3000 aww (by kernel_rfl)
def RI:Ct:=⟨[.sc kB,.agg [kU,kU]],[.agg [.bool,kB,kI,kU,kU]]⟩
def adP:vU SV :=
 (.call 20 iX 3 2 (.call 50 dU 5 1 (.call 49 dU 6 1 (.call 17 iX 7 4 (.ite (.bin .eql .u8 jD aY) (.call 43 [eO,eQ,(.bin .sub .i64 aM gP)] 11 2 (.call 44 [eT,eX,jE,ae] 13 3 (.leaf (.agg [(.bool jF),jG,(.int .i64 (.bin .sub .i64 jl fK)),iO,ik])))) (.ite (.bin .eql .u8 jD ai) (.call 121 [eO,eQ] 11 3 (.leaf (.agg [(.bool jF),jG,(.int .i64 (.bin .sub .i64 (.bin .sub .i64 (.bin .add .i64 (.bin .sub .i64 ai fK) aM) gP) (.var kI 13))),fT,fV]))) (.leaf (.agg [(.bool jF),jG,dE,aL,aL]))))))))
theorem awy:xe (ctx E5) 3000 76 (wN RI.a (wM 0 (vV RI.a))) (vV RI.a).length=adP:=by kernel_rfl
def Fu:List Int->List Int:=wE (wD E5) RI adP
theorem awz:wK prog gG ⟨76,RI,Fu⟩:=xI (xJ RB) 3000 awy (by kernel_rfl)
def RJ:Ct:=⟨[.sc kB,.agg [kB,.bool],.sc .bool,.sc kI,.agg [kU,kU,kU,kU]],[.agg [kU,kU,kB]]⟩
def adQ:vU SV :=
 (.ite dH jw (.ite jA jw (.call 132 [dZ,aA,eF,eH] 9 1 (.ite iy (.call 149 [dF,jh] 10 2 (.leaf (.agg [iN,fT,iF]))) (.call 240 [dZ,aA,eF,eH] 10 5 (.call 50 dU 15 1 (.call 49 dU 16 1 (.call 184 [eQ,eT,eX,eU,jH,dM,jh] 17 3 (.call 42 [fe,fq,jH] 20 1 (.ite jI (.call 186 [dF,jN] 21 1 (.ite jO jP (.ite jR (.ite (.not dL) ku (.call 188 jS 22 4 (.call 184 jU 26 3 (.call 189 [dF,jh,ae,jV,jW] 29 2 (.ite jX (.ite (.bin .lss .i64 jN jQ) j6 (.leaf (.agg [jZ,j5,kv]))) kg))))) (.call 189 [dF,jh,(.bin .add .i64 (.bin .sub .i64 jN jQ) ai),fe,fq] 22 2 kz)))) (.call 186 [dF,jM] 21 1 (.ite jO jP (.ite jR (.ite (.not dL) ku ku) (.call 189 [dF,jh,(.bin .add .i64 (.bin .sub .i64 jM jQ) ai),fe,fq] 22 2 kz))))))))))))))
theorem awC:xe (ctx E5) 3000 134 (wN RJ.a (wM 0 (vV RJ.a))) (vV RJ.a).length=adQ:=by kernel_rfl
def Dq:List Int->List Int:=wE (wD E5) RJ adQ
theorem awD:wK prog gG ⟨134,RJ,Dq⟩:=xI (xJ RB) 3000 awC (by kernel_rfl)
def RL:Ct:=⟨[.sc kB,.agg [kU,kU]],[.sc .bool]⟩
def adR:vU SV :=
 (.call 20 iX 3 2 (.leaf (.bool (.bin .eql .u8 jD (.lit 5)))))
theorem awE:xe (ctx E5) 3000 126 (wN RL.a (wM 0 (vV RL.a))) (vV RL.a).length=adR:=by kernel_rfl
def Ee:List Int->List Int:=wE (wD E5) RL adR
theorem awF:wK prog gG ⟨126,RL,Ee⟩:=xI (xJ RB) 3000 awE (by kernel_rfl)
def E6:List wY:=⟨14,RF,CX⟩::⟨23,RG,RH⟩::⟨76,RI,Fu⟩::⟨134,RJ,Dq⟩::⟨126,RL,Ee⟩::E5
theorem aj9:∀ e∈E6,wK prog gG e:=List.forall_mem_cons.2 ⟨awv,List.forall_mem_cons.2 ⟨awx,List.forall_mem_cons.2 ⟨awz,List.forall_mem_cons.2 ⟨awD,List.forall_mem_cons.2 ⟨awF,RB⟩⟩⟩⟩⟩
theorem X7:wD E5 20=NJ:=wZ (e:=⟨20,_,NJ⟩) rfl
theorem aka:wD E5 50=Gj:=wZ (e:=⟨50,_,Gj⟩) rfl
theorem akb:wD E5 49=Gi:=wZ (e:=⟨49,_,Gi⟩) rfl
theorem awG:wD E5 17=JY:=wZ (e:=⟨17,_,JY⟩) rfl
theorem awH:wD E5 43=BO:=wZ (e:=⟨43,_,BO⟩) rfl
theorem awI:wD E5 44=Eb:=wZ (e:=⟨44,_,Eb⟩) rfl
theorem awJ:wD E5 121=QX:=wZ (e:=⟨121,_,QX⟩) rfl
theorem awK:wD E5 132=Fp:=wZ (e:=⟨132,_,Fp⟩) rfl
theorem awL:wD E5 149=Rn:=wZ (e:=⟨149,_,Rn⟩) rfl
theorem awM:wD E5 240=Q9:=wZ (e:=⟨240,_,Q9⟩) rfl
theorem UO:wD E5 184=LV:=wZ (e:=⟨184,_,LV⟩) rfl
theorem awN:wD E5 42=IK:=wZ (e:=⟨42,_,IK⟩) rfl
theorem akc:wD E5 186=Rf:=wZ (e:=⟨186,_,Rf⟩) rfl
theorem akd:wD E5 187=NK:=wZ (e:=⟨187,_,NK⟩) rfl
theorem X8:wD E5 188=Fs:=wZ (e:=⟨188,_,Fs⟩) rfl
theorem RN:wD E5 189=IQ:=wZ (e:=⟨189,_,IQ⟩) rfl
def RO:Ct:=⟨[.sc kB,.agg [kU,kU]],[.agg [kU,kU]]⟩
def adS:vU SV :=
 (.call 8 iX 3 2 (.call 14 jC 5 1 (.ite iK (.call 50 dU 6 1 (.call 43 [ae,ai,(.bin .sub .i64 fK aY)] 7 2 (.leaf (.agg [(.int .u64 (.bin .or .u64 ay eF)),(.int .u64 (.bin .or .u64 aC eH))])))) iU)))
theorem awO:xe (ctx E6) 3000 125 (wN RO.a (wM 0 (vV RO.a))) (vV RO.a).length=adS:=by kernel_rfl
def Hy:List Int->List Int:=wE (wD E6) RO adS
theorem awP:wK prog gG ⟨125,RO,Hy⟩:=xI (xJ aj9) 3000 awO (by kernel_rfl)
def E7:List wY:=⟨125,RO,Hy⟩::E6
theorem X9:∀ e∈E7,wK prog gG e:=List.forall_mem_cons.2 ⟨awP,aj9⟩
theorem awQ:wD E6 8=Dp:=wZ (e:=⟨8,_,Dp⟩) rfl
theorem awR:wD E6 14=CX:=wZ (e:=⟨14,_,CX⟩) rfl
theorem awS:wD E6 50=Gj:=wZ (e:=⟨50,_,Gj⟩) rfl
theorem awT:wD E6 43=BO:=wZ (e:=⟨43,_,BO⟩) rfl
def RP:Ct:=⟨[.sc kB,.agg [kB,.bool],.agg [kU,kU],.agg [kU,kU]],[.agg [kU,kU,kB]]⟩
def adT:vU SV :=
 (.ite dH jw (.ite jA jw (.call 76 jC 7 5 (.call 76 kC 12 5 (.call 142 kH 17 1 (.call 14 jC 18 1 (.ite (.var .bool 18) (.call 124 dU 19 2 (.call 125 jC 21 2 (.ite kJ kK (.call 126 jC 23 1 (.ite (.var .bool 23) kK (.call 126 kC 24 1 (.ite kL kK kM))))))) (.call 14 kC 19 1 (.ite kw (.call 124 dU 20 2 (.call 125 kC 22 2 (.ite kJ kN (.call 126 jC 24 1 (.ite kL kN (.call 126 kC 25 1 (.ite kP kN ky))))))) (.ite (.not kJ) (.ite (.bin .geq .i64 (.ite kQ ae (.ite kR ai dQ)) ae) (.call 78 [dF,kS] 20 2 kT) (.call 144 kH 20 5 (.call 134 [dF,dM,dL,kS,(.var kI 20),fB,fF,fH,fJ] 25 3 (.leaf (.agg [(.int .u64 jT),kV,(.int .u8 (.var kB 27))]))))) (.call 124 dU 20 2 (.leaf (.agg [ig,fC,jk])))))))))))))
theorem awU:xe (ctx E7) 3000 92 (wN RP.a (wM 0 (vV RP.a))) (vV RP.a).length=adT:=by kernel_rfl
def NL:List Int->List Int:=wE (wD E7) RP adT
theorem awV:wK prog gG ⟨92,RP,NL⟩:=xI (xJ X9) 3000 awU (by kernel_rfl)
def RQ:Ct:=⟨[.sc kB,.sc kB,.agg [kU,kU]],[.agg [kU,kU,kB],.sc .bool]⟩
def ake:vU SV :=
 (.ite kX kY (.call 14 kZ 4 1 (.ite (.not jF) kY (.call 17 kZ 5 4 (.call 50 dU 9 1 (.call 43 [eF,eH,(.bin .sub .i64 (.lit 129) jq)] 10 2 (.call 50 [dM] 12 1 (.call 41 [eQ,eT,(.bin .sub .i64 (.lit 129) lg)] 13 2 (.call 49 [dM] 15 1 (.call 233 [dM,eU,fA] 16 2 (.call 18 [dM,iK,(.bin .add .i64 (.bin .mul .i64 aY jH) ai),eZ,fe] 18 2 (.call 125 [dM,fq,fu] 20 2 (.call 126 kZ 22 1 (.ite lh (.leaf (.tup [(.agg [ig,fC,jk]),gF])) (.leaf (.tup [(.agg [ig,fC,iF]),gF]))))))))))))))))
theorem awW:xe (ctx E7) 3000 165 (wN RQ.a (wM 0 (vV RQ.a))) (vV RQ.a).length=ake:=by kernel_rfl
def akf:List Int->List Int:=wE (wD E7) RQ ake
theorem awX:wK prog gG ⟨165,RQ,akf⟩:=xI (xJ X9) 3000 awW (by kernel_rfl)
def E8:List wY:=⟨92,RP,NL⟩::⟨165,RQ,akf⟩::E7
theorem akg:∀ e∈E8,wK prog gG e:=List.forall_mem_cons.2 ⟨awV,List.forall_mem_cons.2 ⟨awX,X9⟩⟩
theorem akh:wD E7 76=Fu:=wZ (e:=⟨76,_,Fu⟩) rfl
theorem awY:wD E7 142=JS:=wZ (e:=⟨142,_,JS⟩) rfl
theorem aki:wD E7 14=CX:=wZ (e:=⟨14,_,CX⟩) rfl
theorem adU:wD E7 124=IR:=wZ (e:=⟨124,_,IR⟩) rfl
theorem akj:wD E7 125=Hy:=wZ (e:=⟨125,_,Hy⟩) rfl
theorem Ya:wD E7 126=Ee:=wZ (e:=⟨126,_,Ee⟩) rfl
theorem awZ:wD E7 78=Gm:=wZ (e:=⟨78,_,Gm⟩) rfl
theorem aw0:wD E7 144=JX:=wZ (e:=⟨144,_,JX⟩) rfl
theorem aw2:wD E7 134=Dq:=wZ (e:=⟨134,_,Dq⟩) rfl
def RS:Ct:=⟨[.sc kB,.sc kB,.agg [kB,.bool],.agg [kU,kU]],[.agg [kU,kU,kB]]⟩
def akk:vU SV :=
 (.ite (.not (.ite dH ae (.ite kX ae ai))) jw (.ite lq jw (.call 165 [dF,dM,aC,dZ] 6 4 (.ite iy (.leaf (.agg [aB,fM,(.int .u8 kF)])) (.call 76 lu 10 5 (.ite lv (.call 78 [dM,gI] 15 2 lw) (.call 147 [eU,fA,ae,ae] 15 4 (.call 134 [dM,ll,jh,gI,lg,fw,eZ,fe,fq] 19 3 (.leaf (.agg [gZ,ig,(.int .u8 (.var kB 21))]))))))))))
theorem aw3:xe (ctx E8) 3000 106 (wN RS.a (wM 0 (vV RS.a))) (vV RS.a).length=akk:=by kernel_rfl
def akl:List Int->List Int:=wE (wD E8) RS akk
theorem aw4:wK prog gG ⟨106,RS,akl⟩:=xI (xJ akg) 3000 aw3 (by kernel_rfl)
def E9:List wY:=⟨106,RS,akl⟩::E8
theorem aw5:∀ e∈E9,wK prog gG e:=List.forall_mem_cons.2 ⟨aw4,akg⟩
def E10:List wY:=E9
theorem aw6:∀ e∈E10,wK prog gG e:=aw5
def EF:List wY:=E10
theorem UQ:∀ e∈EF,wK prog gG e:=aw6
theorem adV:Br (wR E7 M0 S0) eE:=GZ X9 JG ahm (by kernel_rfl)
def UR:AP:=⟨1000077,[.sc kB,.sc .bool],1,25,[kU,kU],[.agg [kU,kU,kB],.sc .bool]⟩
def akn:vU SV :=
 (.call 14 kZ 4 1 (.ite jF (.ite dH kY (.call 124 dU 5 2 (.call 125 kZ 7 2 (.ite dK lF (.call 126 kZ 9 1 (.ite iy lF (.leaf (.tup [(.agg [fM,fO,iF]),gF])))))))) (.ite dH kY (.ite (.not dK) kY (.call 124 dU 5 2 (.leaf (.tup [(.agg [ed,aB,jk]),gF])))))))
theorem aw7:PH (wR E7 M0 S0) 3000 77 UR=akn:=by kernel_rfl
def ako:List Int->List Int:=wE (wH E7 M0 S0) ⟨UR.a,UR.r⟩ akn
theorem aw8:Iq prog gG ⟨77,UR,ako⟩:=abo adV 3000 aw7 (by kernel_rfl)
def UT:AP:=⟨2000077,[.sc kB,.sc .bool],2,25,[kU,kU,kU,kU],[.agg [kU,kU,kB],.sc .bool]⟩
def adW:vU SV :=
 (.call 14 kZ 6 1 (.ite ja (.ite dH kY (.call 124 dU 7 2 (.call 125 kZ 9 2 (.ite dK lG (.call 126 kZ 11 1 (.ite lH lG (.call 126 lu 12 1 (.ite kG lG (.leaf (.tup [(.agg [gD,iN,iF]),gF])))))))))) (.call 14 lu 7 1 (.ite gz (.ite dH kY (.call 124 dU 8 2 (.call 125 lu 10 2 (.ite dK lI (.call 126 kZ 12 1 (.ite kG lI (.call 126 lu 13 1 (.ite lJ lI (.leaf (.tup [(.agg [iN,fT,iF]),gF])))))))))) (.ite dH kY (.ite (.not dK) kY (.call 124 dU 8 2 (.leaf (.tup [(.agg [fO,gD,jk]),gF])))))))))
theorem aw9:PH (wR E7 M0 S0) 3000 77 UT=adW:=by kernel_rfl
def LX:List Int->List Int:=wE (wH E7 M0 S0) ⟨UT.a,UT.r⟩ adW
theorem axa:Iq prog gG ⟨77,UT,LX⟩:=abo adV 3000 aw9 (by kernel_rfl)
def UU:AP:=⟨3000077,[.sc kB,.sc .bool],3,25,[kU,kU,kU,kU,kU,kU],[.agg [kU,kU,kB],.sc .bool]⟩
def adX:vU SV :=
 (.call 14 kZ 8 1 (.ite lL (.ite dH kY (.call 124 dU 9 2 (.call 125 kZ 11 2 (.ite dK lN (.call 126 kZ 13 1 (.ite lJ lN (.call 126 lu 14 1 (.ite je lN (.call 126 lS 15 1 (.ite lU lN (.leaf (.tup [(.agg [fT,fV,iF]),gF])))))))))))) (.call 14 lu 9 1 (.ite iy (.ite dH kY (.call 124 dU 10 2 (.call 125 lu 12 2 (.ite dK lV (.call 126 kZ 14 1 (.ite je lV (.call 126 lu 15 1 (.ite lU lV (.call 126 lS 16 1 (.ite lW lV (.leaf (.tup [(.agg [fV,iO,iF]),gF])))))))))))) (.call 14 lS 10 1 (.ite gI (.ite dH kY (.call 124 dU 11 2 (.call 125 lS 13 2 (.ite dK lX (.call 126 kZ 15 1 (.ite lU lX (.call 126 lu 16 1 (.ite lW lX (.call 126 lS 17 1 (.ite kJ lX (.leaf (.tup [(.agg [iO,ik,iF]),gF])))))))))))) (.ite dH kY (.ite (.not dK) kY (.call 124 dU 11 2 lN)))))))))
theorem axb:PH (wR E7 M0 S0) 3000 77 UU=adX:=by kernel_rfl
def LY:List Int->List Int:=wE (wH E7 M0 S0) ⟨UU.a,UU.r⟩ adX
theorem axc:Iq prog gG ⟨77,UU,LY⟩:=abo adV 3000 axb (by kernel_rfl)
def S1:List yU:=⟨77,UR,ako⟩::⟨77,UT,LX⟩::⟨77,UU,LY⟩::S0
theorem IU:∀ e∈S1,Iq prog gG e:=List.forall_mem_cons.2 ⟨aw8,List.forall_mem_cons.2 ⟨axa,List.forall_mem_cons.2 ⟨axc,ahm⟩⟩⟩
theorem UV:wH E7 M0 S0 14=CX:=xZ (e:=⟨14,_,CX⟩) rfl rfl rfl
theorem NM:wH E7 M0 S0 124=IR:=xZ (e:=⟨124,_,IR⟩) rfl rfl rfl
theorem UW:wH E7 M0 S0 125=Hy:=xZ (e:=⟨125,_,Hy⟩) rfl rfl rfl
theorem Fv:wH E7 M0 S0 126=Ee:=xZ (e:=⟨126,_,Ee⟩) rfl rfl rfl
end Go.Proofs.YtippohicjhilnaaGreatDoor
