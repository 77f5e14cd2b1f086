import Derived.Test.YtippohicjhilnaaGreatDoorZDTr
set_option linter.unusedSimpArgs false
set_option linter.unusedVariables false
set_option maxRecDepth 100000
open Go.Proofs.Tryz
namespace Go.Proofs.YtippohicjhilnaaGreatDoor
open Go.RowKit
def Lj:Ct:=⟨[.agg [kU,kU]],[.sc .bool]⟩
abbrev aa:X:=.var kU 0
abbrev ag:X:=.lit 0
abbrev ah:X:=.bin .eql .u64 aa ag
abbrev ai:X:=.var kU 1
abbrev aj:X:=.bin .eql .u64 ai ag
abbrev ak:X:=.lit 1
abbrev au:X:=.var kI 2
abbrev av:X:=.bin .lss .i64 au ag
abbrev ax:SV:=.bool ag
abbrev ay:tL SV:=.leaf ax
abbrev az:X:=.lit 63
abbrev aA:X:=.var kU 3
abbrev aB:X:=.var kU 2
abbrev aC:X:=.var kU 6
abbrev aD:SV:=.int .u64 aC
abbrev aF:X:=.var kU 4
abbrev aG:SV:=.int .u64 aF
abbrev aH:tL SV:=.leaf (.tup [(.agg [aD,aG]),(.bool (.bin .neq .u64 (.var .bit 7) ag))])
abbrev aJ:SV:=.int .u64 aB
abbrev aK:SV:=.int .u64 aA
abbrev aL:SV:=.int .u64 ai
abbrev aM:SV:=.int .u64 aa
abbrev aO:SV:=.int .u64 ag
abbrev aP:X:=.lit 128
abbrev aQ:X:=.min (.max au ag) aP
abbrev aR:X:=.max (.lit (-128)) aQ
abbrev aS:X:=.lit 6
abbrev aT:X:=.bin .shr .i64 aR aS
abbrev aU:X:=.bin .sub .i64 ak aT
abbrev aV:X:=.conv .u64 (.bin .and .i64 aR az)
abbrev aW:X:=.bin .sub .u64 az aV
abbrev aX:X:=.max (.lit (-128)) (.min (.bin .sub .i64 ag aQ) aP)
abbrev aY:X:=.bin .shr .i64 aX aS
abbrev aZ:X:=.bin .sub .i64 ak aY
abbrev bg:X:=.lit 2
abbrev bi:X:=.conv .u64 (.bin .and .i64 aX az)
abbrev bq:X:=.bin .sub .i64 aZ ak
abbrev bu:X:=.bin .sub .u64 az bi
abbrev bv:X:=.bin .sub .i64 ag aY
abbrev bz:X:=.bin .sub .i64 bv ak
abbrev bE:X:=.var kI 4
abbrev bG:X:=.lit 256
abbrev bH:X:=.min (.max bE ag) bG
abbrev bI:X:=.max (.lit (-256)) bH
abbrev bJ:X:=.bin .shr .i64 bI aS
abbrev bK:X:=.conv .u64 (.bin .and .i64 bI az)
abbrev bL:X:=.bin .sub .u64 az bK
abbrev bP:X:=.bin .sub .i64 ak bJ
abbrev bT:X:=.bin .sub .i64 bg bJ
abbrev bU:X:=.bin .sub .i64 bT ak
abbrev bV:X:=.lit 3
abbrev cu:X:=.bin .sub .i64 bV bJ
abbrev cz:X:=.bin .sub .i64 cu ak
abbrev cO:X:=.max (.lit (-256)) (.min (.bin .sub .i64 ag bH) bG)
abbrev df:X:=.bin .shr .i64 cO aS
abbrev dh:X:=.bin .sub .i64 ag df
abbrev di:X:=.lit 4
abbrev dw:X:=.conv .u64 (.bin .and .i64 cO az)
abbrev dx:X:=.bin .sub .i64 dh ak
abbrev dz:X:=.bin .sub .u64 az dw
abbrev dA:X:=.bin .sub .i64 ak df
abbrev dC:X:=.bin .sub .i64 dA ak
abbrev dD:X:=.bin .sub .i64 bg df
abbrev dE:X:=.bin .sub .i64 dD ak
abbrev dF:X:=.bin .sub .i64 bV df
abbrev dG:X:=.bin .sub .i64 dF ak
abbrev dH:SV:=.int .i64 ag
abbrev dI:X:=.var kB 0
abbrev dJ:X:=.bin .lss .i64 dI di
abbrev dK:X:=.not dJ
abbrev dL:SV:=.int .i64 (.lit 1023)
abbrev dM:SV:=.int .i64 (.lit 16383)
abbrev dO:X:=.var .bool 1
abbrev dP:X:=.var .bool 2
abbrev dQ:X:=.var kB 1
abbrev dR:X:=.var kB 6
abbrev dS:X:=.bin .eql .u8 dR ag
abbrev dU:X:=.lit (-1)
abbrev dW:X:=.bin .eql .u8 dQ bV
abbrev dX:X:=.bin .eql .u8 dR bV
abbrev dY:List X:=[dI]
abbrev dZ:X:=.var kI 3
abbrev ed:X:=.var kI 1
abbrev eu:X:=.bin .sub .i64 aP au
abbrev eD:X:=.var kU 5
abbrev eF:SV:=.int .u64 eD
abbrev eG:tL SV:=.leaf (.agg [eF,aD])
abbrev eH:X:=.var kU 7
abbrev eO:List X:=[aF,eD,aC,eH]
abbrev eQ:X:=.var kU 8
abbrev eT:X:=.var kU 9
abbrev eU:X:=.var kU 10
abbrev eX:X:=.var kU 11
abbrev eY:X:=.var kU 13
abbrev eZ:X:=.var kU 12
abbrev fe:X:=.var kU 16
abbrev fq:X:=.var kU 17
abbrev fu:X:=.var kU 18
abbrev fw:X:=.var kU 19
abbrev fA:X:=.var kU 15
abbrev fB:X:=.var kU 14
abbrev fC:X:=.var kU 21
abbrev fF:SV:=.int .u64 fC
abbrev fG:X:=.var kU 22
abbrev fH:SV:=.int .u64 fG
abbrev fI:X:=.var kU 23
abbrev fJ:SV:=.int .u64 fI
abbrev fK:X:=.var kU 24
abbrev fM:X:=.var kI 6
abbrev fO:SV:=.int .u64 eH
abbrev fQ:SV:=.int .u64 eQ
abbrev fT:X:=.bin .sub .i64 bG fM
abbrev fV:SV:=.int .u64 eX
abbrev fZ:SV:=.int .u64 eZ
abbrev gm:List X:=[aa,ai,aB,aA,bE]
abbrev gp:List X:=[aa,ai,aB,aA]
abbrev gq:X:=.bin .eql .i64 bE ag
abbrev gy:X:=.bin .sub .i64 bG bE
abbrev gz:SV:=.agg [eF,aD,fO,fQ]
abbrev gD:X:=.var .bool 7
abbrev gF:SV:=.int .u64 eT
abbrev gH:SV:=.bool ak
abbrev gI:tL SV:=.leaf (.tup [(.agg [fQ,gF]),gH])
abbrev gJ:X:=.var .bool 10
abbrev gK:X:=.bin .neq .u64 aB aB
abbrev gL:X:=.ite (.bin .neq .u64 aa aa) (.ite gK ag dU) (.ite gK ak (.ite (.bin .lss .u64 aa aB) dU (.ite (.bin .gtr .u64 aa aB) ak ag)))
abbrev gM:X:=.bin .neq .u64 aA aA
abbrev gP:X:=.ite (.bin .neq .u64 ai ai) (.ite gM ag dU) (.ite gM ak (.ite (.bin .lss .u64 ai aA) dU (.ite (.bin .gtr .u64 ai aA) ak ag)))
abbrev gQ:X:=.var kI 5
abbrev gT:SV:=.agg [aO,aO]
abbrev gV:X:=.bin .sub .i64 gQ fM
abbrev gY:X:=.bin .sub .i64 fM ak
abbrev gZ:X:=.bin .sub .i64 gQ ak
abbrev ib:SV:=.int .u64 fw
abbrev ig:X:=.var kU 20
abbrev ik:SV:=.int .u64 ig
abbrev il:SV:=.int .u64 fB
abbrev iq:SV:=.int .u64 fA
abbrev iw:tL SV:=.call 43 [eQ,eT,gY] 10 2 (.call 27 [aA,aF,gY] 12 2 (.call 44 [eU,eX,eZ,eY] 14 3 (.ite dO (.call 43 [ag,ak,gZ] 17 2 (.call 44 [fB,fA,fq,fu] 19 3 (.leaf (.agg [ib,ik])))) (.leaf (.agg [il,iq])))))
abbrev iy:tL SV:=.call 27 [ag,ag,gV] 8 2 iw
abbrev iC:X:=.var .bool 9
abbrev iD:X:=.bin .lss .i64 bE ag
abbrev iE:SV:=.int .u8 ag
abbrev iF:X:=.bin .gtr .i64 bE (.lit 127)
abbrev iG:X:=.lit 255
abbrev iH:X:=.bin .sub .i64 iG bE
abbrev iI:X:=.bin .and .i64 iH az
abbrev iJ:X:=.var .bool 5
abbrev iK:tL SV:=.leaf (.tup [dH,(.agg [aO,aO,aO,aO])])
abbrev iL:X:=.var kI 7
abbrev iM:SV:=.int .u64 eU
abbrev iN:SV:=.int .u64 eY
abbrev iO:tL SV:=.call 218 [aA,aF,eQ,eT] 10 4 (.leaf (.tup [(.int .i64 (.bin .add .i64 (.bin .add .i64 au iL) ak)),(.agg [iM,fV,fZ,iN])]))
abbrev iP:tL SV:=.ite (.bin .neq .u8 dR ak) (.ite (.bin .neq .u8 dR bg) iK iO) iO
abbrev iQ:X:=.bin .mul .i64 bg au
abbrev iR:tL SV:=.leaf (.agg [aK,aG])
abbrev iT:X:=.lit 18446744073709551615
abbrev iU:X:=.bin .eql .i64 dZ ag
abbrev iV:List X:=[dI,ai,aB]
abbrev iW:X:=.bin .sub .i64 bE ak
abbrev iX:X:=.var .bool 6
abbrev iY:tL SV:=.leaf (.agg [fO,fQ])
abbrev iZ:tL SV:=.leaf (.tup [gT,ax])
abbrev ja:X:=.var kB 13
abbrev jb:X:=.var .bool 14
abbrev jc:SV:=.int .u64 fe
abbrev jd:SV:=.bool (.bin .neq .u8 ja ag)
abbrev je:X:=.var .bool 3
abbrev jf:SV:=.bool je
abbrev jg:SV:=.int .u8 ak
abbrev jh:X:=.var kI 8
abbrev ji:SV:=.int .u8 bg
abbrev jk:SV:=.int .u8 bV
abbrev jl:X:=.var kI 9
abbrev jm:tL SV:=.leaf (.tup [(.int .u8 di),jf])
abbrev jo:tL SV:=.leaf (.tup [(.int .u8 (.lit 5)),jf])
abbrev jq:tL SV:=.leaf (.agg [aO,aO,iE])
abbrev jr:X:=.not (.bin .leq .u8 dQ di)
abbrev jv:tL SV:=.leaf (.agg [aG,eF,(.int .u8 (.lit 20))])
abbrev jw:List X:=[dI,aA,aF]
abbrev jA:X:=.var kB 3
abbrev jB:X:=.lit 9223372036854775808
abbrev jC:X:=.var .bool 4
abbrev jD:SV:=.int .u8 jA
abbrev jE:X:=.var kI 15
abbrev jF:X:=.var .bool 20
abbrev jG:X:=.lit (-1099511627776)
abbrev jH:X:=.lit 1099511627776
abbrev jI:X:=.var kI 14
abbrev jJ:X:=.bin .sub .i64 (.max jG (.min bE jH)) jI
abbrev jK:X:=.bin .add .i64 jJ ak
abbrev jL:X:=.var .bool 21
abbrev jM:tL SV:=.call 187 [dI,dQ,je] 22 3 (.leaf (.agg [fH,fJ,(.int .u8 (.var kB 24))]))
abbrev jN:X:=.bin .sub .i64 ak (.var kI 16)
abbrev jO:X:=.bin .lss .i64 jJ jN
abbrev jP:List X:=[eU,eX,eZ,eY,(.bin .sub .i64 jN jJ)]
abbrev jQ:X:=.var kU 25
abbrev jR:List X:=[fG,fI,fK,jQ,jE,dQ,je]
abbrev jS:X:=.var kU 26
abbrev jT:X:=.var kU 27
abbrev jU:X:=.var kU 29
abbrev jV:SV:=.int .u64 jU
abbrev jW:X:=.var kU 30
abbrev jX:SV:=.int .u64 jW
abbrev jY:tL SV:=.leaf (.agg [jV,jX,(.int .u8 (.lit 24))])
abbrev jZ:tL SV:=.leaf (.agg [jV,jX,iE])
abbrev j4:tL SV:=.call 188 jP 22 4 (.call 184 jR 26 3 (.call 189 [dI,je,ag,jS,jT] 29 2 (.ite (.var .bool 28) jY jZ)))
abbrev j5:SV:=.int .u8 (.lit 16)
abbrev j6:X:=.var .bool 19
abbrev kg:tL SV:=.leaf (.agg [fH,fJ,iE])
abbrev ku:tL SV:=.ite j6 (.leaf (.agg [fH,fJ,j5])) kg
abbrev kv:List X:=[dI,eD,aC]
abbrev kw:X:=.var kB 8
abbrev ky:X:=.var .bool 12
abbrev kz:List X:=[gD,kw,jl,eU,eX,ky,ja,jI,fA,fe]
abbrev kC:X:=.var .bool 17
abbrev kF:tL SV:=.leaf (.agg [fF,fH,jg])
abbrev kG:X:=.var .bool 24
abbrev kH:tL SV:=.leaf (.agg [fF,fH,iE])
abbrev kJ:tL SV:=.leaf (.agg [fH,fJ,jg])
abbrev kK:X:=.var .bool 25
abbrev kL:X:=.bin .eql .u8 kw bV
abbrev kM:X:=.bin .eql .u8 ja bV
abbrev kN:X:=.not (.beq gD ky)
abbrev kP:tL SV:=.leaf (.agg [ik,fF,iE])
abbrev kQ:SV:=.int .u64 jS
abbrev kR:X:=.not (.bin .lss .i64 dQ di)
abbrev kS:tL SV:=.leaf (.tup [(.agg [aO,aO,iE]),ax])
abbrev kT:List X:=[dI,aB,aA]
abbrev kV:X:=.var kI 12
abbrev kX:X:=.var kB 2
abbrev kY:X:=.not (.bin .leq .u8 kX di)
abbrev kZ:List X:=[dI,aF,eD]
abbrev lg:X:=.bin .eql .u8 (.var kB 11) bV
abbrev lh:tL SV:=.leaf (.agg [iq,jc,iE])
abbrev ll:tL SV:=.leaf (.tup [(.agg [fO,fQ,jg]),gH])
abbrev lq:tL SV:=.leaf (.tup [(.agg [gF,iM,jg]),gH])
abbrev lu:X:=.var .bool 11
abbrev lv:tL SV:=.leaf (.tup [(.agg [iM,fV,jg]),gH])
abbrev lw:X:=.var .bool 13
abbrev lC:X:=.var .bool 8
abbrev lF:tL SV:=.leaf (.tup [(.agg [fV,fZ,jg]),gH])
abbrev lG:List X:=[dI,aC,eH]
abbrev lI:X:=.var .bool 15
abbrev lJ:tL SV:=.leaf (.tup [(.agg [fZ,iN,jg]),gH])
abbrev lL:X:=.var .bool 16
abbrev lN:tL SV:=.leaf (.tup [(.agg [iN,il,jg]),gH])
abbrev lQ:List X:=[ai,aB,aA,aF]
abbrev lS:List X:=[aC,eH,eQ,eT]
abbrev lU:X:=.max jG (.min gQ jH)
abbrev lV:X:=.var kI 0
abbrev lW:X:=.max jG (.min lV jH)
abbrev lX:tL SV:=.leaf (.int .i64 (.max lW lU))
abbrev lY:List X:=[ai,aB,aA,aF,(.bin .sub .i64 (.max lW lU) lW)]
abbrev lZ:List X:=[aC,eH,eQ,eT,(.bin .sub .i64 (.max lW lU) lU)]
abbrev l7:tL SV:=.leaf (.int .i64 (.var kI 20))
abbrev l8:List X:=[lV,ai,aB,aA,aF,gQ,aC,eH,eQ,eT]
abbrev l9:X:=.bin .add .i64 (.var kI 10) ak
abbrev ma:X:=.bin .lss .i64 (.var kI 10) ag
abbrev mf:X:=.var kI 11
abbrev mh:X:=.bin .add .i64 mf ag
abbrev mi:List X:=[aC,eH,eQ,eT,(.bin .sub .i64 mh lU)]
abbrev mo:List X:=[ai,aB,aA,aF,(.bin .sub .i64 mh lW)]
abbrev mq:tL SV:=.call 158 [eZ,eY,fB,fA,fe,fq,fu,fw] 20 5 (.leaf (.tup [(.agg [(.int .i64 mh),ik,fF,fH,fJ]),(.bool ma)]))
abbrev mr:tL SV:=.leaf (.agg [(.int .u64 fq),(.int .u64 fu),(.int .u8 (.var kB 19))])
abbrev mD:tL SV:=.ite jF mr (.call 78 [dI,gD] 21 2 kH)
abbrev mF:List X:=[dI,ag,aA,aF,eD,aC]
abbrev mG:List X:=[eU,eX,ag,ag]
abbrev mH:List X:=[fA,fe,ag,ag]
abbrev mI:X:=.var kU 28
abbrev mJ:List X:=[jl,fC,fG,fI,fK,jI,jQ,jS,jT,mI]
abbrev mK:X:=.var kU 31
abbrev mM:X:=.var kU 32
abbrev mO:X:=.var kU 33
abbrev mP:X:=.var .bool 35
abbrev mQ:X:=.var kU 36
abbrev mR:SV:=.int .u64 mQ
abbrev mU:SV:=.int .u64 (.var kU 37)
abbrev mV:tL SV:=.leaf (.agg [mR,mU,(.int .u8 (.var kB 38))])
abbrev mW:X:=.var .bool 34
abbrev mY:X:=.var kU 35
abbrev mZ:SV:=.int .u64 mY
abbrev ng:tL SV:=.call 134 [dI,dQ,dP,gD,(.var kI 29),jW,mK,mM,mO] 35 3 (.leaf (.agg [mZ,mR,(.int .u8 (.var kB 37))]))
abbrev ni:List X:=[jb,(.var kB 15),(.var kI 16),fq,fu,j6,(.var kB 20),(.var kI 21),fG,fI]
abbrev nk:X:=.bin .eql .u8 (.var kB 10) bV
abbrev nu:X:=.not (.beq jb j6)
abbrev ny:List X:=[dI,ag,aA,aF,eD,aC,eH,eQ]
abbrev nA:X:=.var .bool 33
abbrev nC:X:=.var kU 34
abbrev nD:SV:=.int .u64 nC
abbrev nE:SV:=.int .u64 (.var kU 38)
abbrev nG:X:=.var kU 39
abbrev nH:SV:=.int .u64 mK
abbrev nI:tL SV:=.leaf (.agg [jX,nH,(.int .u8 (.var kB 32))])
abbrev nJ:tL SV:=.leaf (.agg [nD,mZ,iE])
abbrev nK:tL SV:=.ite nA nI (.call 78 [dI,nu] 34 2 nJ)
abbrev nL:List X:=[dI,ak,aA,aF,eD,aC,eH,eQ]
abbrev nM:tL SV:=.ite (.not (.var .bool 29)) (.ite nk (.ite (.not (.beq nu iC)) (.call 3000077 ny 30 4 (.call 3000077 [dI,(.not nA),aA,aF,eD,aC,eH,eQ] 34 4 (.ite (.var .bool 37) (.leaf (.agg [nD,mZ,(.int .u8 (.var kB 36))])) (.call 78 [dI,nu] 38 2 (.leaf (.agg [nE,(.int .u64 nG),iE])))))) (.call 3000077 ny 30 4 nK)) (.call 3000077 ny 30 4 nK)) (.call 3000077 nL 30 4 nK)
abbrev nO:List X:=[eZ,eY,ag,ag]
abbrev nP:tL SV:=.leaf (.agg [(.int .u64 (.var kU 54)),(.int .u64 (.var kU 55)),(.int .u8 (.var kB 56))])
abbrev nQ:X:=.var kU 40
abbrev nR:X:=.var kU 41
abbrev nS:SV:=.int .u64 (.var kU 44)
abbrev nT:SV:=.int .u64 (.var kU 45)
abbrev nU:tL SV:=.call 134 [dI,dQ,dP,nu,(.var kI 38),nG,nQ,nR,(.var kU 42)] 44 3 (.leaf (.agg [nS,nT,(.int .u8 (.var kB 46))]))
abbrev nV:tL SV:=.ite nA nI (.ite nk (.call 78 [dI,iC] 34 2 nJ) (.call 147 nO 34 4 (.call 128 [(.var kI 24),jQ,jS,jT,mI,mf,nC,mY,mQ,(.var kU 37)] 38 5 (.ite (.not (.beq nu iC)) (.call 147 nO 43 4 (.call 130 [(.var kI 24),jQ,jS,jT,mI,mf,(.var kU 43),(.var kU 44),(.var kU 45),(.var kU 46)] 47 6 (.call 132 [(.var kU 48),(.var kU 49),(.var kU 50),(.var kU 51)] 53 1 (.ite (.var .bool 53) (.call 134 [dI,dQ,dP,dW,(.var kI 47),(.var kU 48),(.var kU 49),(.var kU 50),(.var kU 51)] 54 3 nP) (.call 134 [dI,dQ,dP,(.not (.beq nu (.var .bool 52))),(.var kI 47),(.var kU 48),(.var kU 49),(.var kU 50),(.var kU 51)] 54 3 nP))))) (.call 132 [nG,nQ,nR,(.var kU 42)] 43 1 (.ite (.var .bool 43) nU nU))))))
abbrev nX:tL SV:=.leaf (.agg [iM,fV,(.int .u8 (.var kB 12))])
abbrev nY:X:=.var .nat 0
abbrev nZ:X:=.var .nat 4
abbrev og:X:=.var .nat 1
abbrev oh:X:=.bin .eql .u8 dI ag
abbrev ol:X:=.bin .eql .u8 dI ak
abbrev om:X:=.bin .eql .u8 dI bg
abbrev oo:X:=.bin .eql .u8 dI bV
abbrev oq:X:=.var .nat 5
abbrev ou:X:=.var .nat 6
abbrev ow:X:=.var .nat 8
abbrev oz:X:=.bin .eql .i64 (.dlen oq) ag
abbrev oC:SV:=.int .u64 je
abbrev oD:X:=.var .nat 7
abbrev oF:List X:=[og,(.bin .sub .i64 au (.min au gQ))]
abbrev oG:List X:=[nZ,(.bin .sub .i64 gQ (.min au gQ))]
abbrev oH:X:=.var .bool 0
abbrev oI:SV:=.int .u64 (.min au gQ)
abbrev oJ:X:=.bin .lss .i64 jh ag
abbrev oK:SV:=.int .u64 (.var .nat 9)
abbrev oL:tL SV:=.call 78 [dI,kN] 21 2 kH
abbrev oM:X:=.bin .eql .u8 kw ag
abbrev oN:tL SV:=.call 149 [dI,kN] 21 2 kH
abbrev oO:List X:=[jQ,jS,jT,mI,(.lit 100)]
abbrev oP:X:=.not (.var .bool 36)
abbrev oQ:X:=.bin .add .i64 (.bin .sub .i64 jl jI) (.lit 27)
abbrev oU:X:=.var kB 39
abbrev oV:tL SV:=.leaf (.agg [mU,nE,(.int .u8 oU)])
abbrev oZ:tL SV:=.ite oM oN (.ite (.bin .eql .u8 ja ag) (.call 78 [dI,kN] 21 2 (.leaf (.agg [fF,fH,ji]))) (.call 147 mG 21 4 (.call 146 [fC,fG,fI,fK,fA,fe] 25 7 (.call 148 oO 32 4 (.call 48 [jU,jW] 36 1 (.ite oP (.call 134 [dI,dQ,dP,kN,oQ,(.bin .or .u64 mM ak),mO,nC,mY] 37 3 oV) (.call 134 [dI,dQ,dP,kN,oQ,mM,mO,nC,mY] 37 3 oV)))))))
abbrev o9:tL SV:=.call 8 iV 20 2 kP
abbrev pg:X:=.bin .sub .i64 kV ak
abbrev pq:X:=.bin .lss .i64 iL pg
abbrev pu:X:=.bin .eql .i64 iL pg
abbrev pz:List X:=[eQ,eT,eY,fB]
abbrev pE:X:=.bin .add .i64 (.min iL kV) aP
abbrev pF:X:=.not (.beq iJ ag)
abbrev pG:X:=.bin .neq .u8 (.var kB 27) ag
abbrev pI:X:=.bin .sub .i64 iL kV
abbrev pJ:X:=.bin .gtr .i64 pI ag
abbrev pK:tL SV:=.ite (.bin .neq .u8 (.var kB 38) ag) jq (.leaf (.agg [mR,mU,iE]))
abbrev pM:tL SV:=.call 152 [jT,mI] 31 4 (.call 132 [mK,mM,mO,nC] 35 1 (.call 134 [dI,di,ag,(.not (.beq iJ (.not mP))),pE,mK,mM,mO,nC] 36 3 pK))
abbrev pO:tL SV:=.call 152 [fI,fK] 31 4 (.call 134 [dI,di,ag,pF,pE,mK,mM,mO,nC] 35 3 (.ite (.bin .neq .u8 (.var kB 37) ag) jq (.leaf (.agg [mZ,mR,iE]))))
abbrev pQ:tL SV:=.call 229 [eY,fB,fI,fK] 27 3 (.call 156 [fI,fK,jT,mI] 30 1 (.ite (.bin .gtr .i64 (.var kI 30) ag) pM (.ite (.bin .eql .i64 (.var kI 30) ag) (.ite kK pM pO) pO)))
abbrev pR:X:=.bin .gtr .i64 (.var kI 26) ag
abbrev pU:SV:=.int .u64 mO
abbrev pV:tL SV:=.ite (.bin .neq .u8 (.var kB 34) ag) jq (.leaf (.agg [(.int .u64 mM),pU,iE]))
abbrev pW:tL SV:=.call 152 [fI,fK] 27 4 (.call 132 [jT,mI,jU,jW] 31 1 (.call 134 [dI,di,ag,(.not (.beq iJ (.not (.var .bool 31)))),pE,jT,mI,jU,jW] 32 3 pV))
abbrev pY:X:=.bin .eql .i64 (.var kI 26) ag
abbrev qa:X:=.bin .neq .u8 (.var kB 33) ag
abbrev qf:tL SV:=.call 134 [dI,di,ag,pF,pE,jT,mI,jU,jW] 31 3 (.ite qa jq (.leaf (.agg [nH,(.int .u64 mM),iE])))
abbrev qg:tL SV:=.call 152 [eQ,eT] 27 4 qf
abbrev qh:tL SV:=.call 8 iV 21 2 kH
abbrev qj:X:=.bin .neq .u8 (.var kB 28) ag
abbrev ql:tL SV:=.leaf (.agg [kQ,(.int .u64 jT),iE])
abbrev qm:tL SV:=.call 152 [mI,jU] 32 4 (.call 132 [mM,mO,nC,mY] 36 1 (.call 134 [dI,di,ag,(.not (.beq iJ oP)),pE,mM,mO,nC,mY] 37 3 (.ite (.bin .neq .u8 oU ag) jq (.leaf (.agg [mU,nE,iE])))))
abbrev qo:tL SV:=.call 152 [fK,jQ] 32 4 (.call 134 [dI,di,ag,pF,pE,mM,mO,nC,mY] 36 3 pK)
abbrev qp:tL SV:=.call 229 [eY,fB,fK,jQ] 28 3 (.call 156 [fK,jQ,mI,jU] 31 1 (.ite (.bin .gtr .i64 (.var kI 31) ag) qm (.ite (.bin .eql .i64 (.var kI 31) ag) (.ite (.var .bool 26) qm qo) qo)))
abbrev qw:X:=.bin .gtr .i64 (.var kI 27) ag
abbrev qz:tL SV:=.call 152 [fK,jQ] 28 4 (.call 132 [mI,jU,jW,mK] 32 1 (.call 134 [dI,di,ag,(.not (.beq iJ (.not (.var .bool 32)))),pE,mI,jU,jW,mK] 33 3 (.ite (.bin .neq .u8 (.var kB 35) ag) jq (.leaf (.agg [pU,nD,iE])))))
abbrev qA:X:=.bin .eql .i64 (.var kI 27) ag
abbrev qB:tL SV:=.call 134 [dI,di,ag,pF,pE,mI,jU,jW,mK] 32 3 pV
abbrev qC:tL SV:=.call 152 [eQ,eT] 28 4 qB
abbrev qD:tL SV:=.ite lg qh (.ite pq qh (.ite pu (.call 152 [eQ,eT] 21 4 (.call 156 pz 25 1 (.ite (.bin .gtr .i64 (.var kI 25) ag) (.call 152 [eY,fB] 26 4 (.call 152 [eY,fB] 30 4 (.call 157 [jS,jT,mI,jU,jW,mK,mM,mO] 34 5 (.call 158 [nC,mY,mQ,(.var kU 37),fC,fG,fI,fK] 39 5 (.call 132 [nG,nQ,nR,(.var kU 42)] 44 1 (.call 134 [dI,di,ag,(.not (.beq iJ (.not (.var .bool 44)))),pE,nG,nQ,nR,(.var kU 42)] 45 3 (.ite (.bin .neq .u8 (.var kB 47) ag) jq (.leaf (.agg [nT,(.int .u64 (.var kU 46)),iE]))))))))) (.call 134 [dI,di,ag,pF,pE,fC,fG,fI,fK] 26 3 (.ite qj jq ql))))) (.call 229 pz 21 3 (.ite (.not (.var .bool 23)) (.ite pJ (.call 230 [fC,fG,pI,eY,fB] 24 4 qp) (.call 229 [eY,fB,fC,fG] 24 3 (.call 156 [fC,fG,fK,jQ] 27 1 (.ite qw qz (.ite qA qz (.call 152 [fC,fG] 28 4 qB)))))) (.ite pJ (.call 230 [eQ,eT,pI,eY,fB] 24 4 qp) (.call 229 [eY,fB,eQ,eT] 24 3 (.call 156 [eQ,eT,fK,jQ] 27 1 (.ite qw qz (.ite qA qC qC)))))))))
abbrev qE:tL SV:=.ite jF mr (.ite dS qh qD)
abbrev qF:tL SV:=.leaf (.agg [il,iq,iE])
abbrev qG:List X:=[eQ,eT,ag,ag]
abbrev qH:X:=.bin .sub .i64 iL iG
abbrev qI:X:=.bin .add .i64 (.bin .quo .i64 (.bin .add .i64 qH ak) bg) (.lit 155)
abbrev qJ:tL SV:=.leaf (.agg [pU,nD,(.int .u8 (.var kB 35))])
abbrev qK:X:=.bin .add .i64 (.bin .quo .i64 qH bg) (.lit 155)
abbrev qL:tL SV:=.leaf (.agg [jV,jX,(.int .u8 (.var kB 31))])
abbrev qM:tL SV:=.ite dX (.call 78 [dI,iJ] 14 2 qF) (.call 147 qG 14 4 (.ite (.bin .neq .i64 (.bin .rem .i64 qH bg) ag) (.call 150 [fB,fA,fe,fq,ak] 18 4 (.call 151 [fu,fw,ig,fC] 22 3 (.call 152 [fG,fI] 25 4 (.call 148 oO 29 4 (.ite (.not kG) (.call 134 [dI,dQ,dP,ag,qI,(.bin .or .u64 jU ak),jW,mK,mM] 33 3 qJ) (.call 134 [dI,dQ,dP,ag,qI,jU,jW,mK,mM] 33 3 qJ)))))) (.call 151 [fB,fA,fe,fq] 18 3 (.call 152 [fu,fw] 21 4 (.call 148 [fC,fG,fI,fK,(.lit 100)] 25 4 (.ite (.not jF) (.call 134 [dI,dQ,dP,ag,qK,(.bin .or .u64 jQ ak),jS,jT,mI] 29 3 qL) (.call 134 [dI,dQ,dP,ag,qK,jQ,jS,jT,mI] 29 3 qL)))))))
abbrev qN:List X:=[dI,ag,aA,aF]
abbrev qO:tL SV:=.call 149 [dI,iJ] 14 2 qF
abbrev qP:X:=.conv .u64 (.conv .i64 (.conv .i32 aF))
abbrev qQ:X:=.bin .eql .u64 (.bin .shr .u64 qP az) ak
abbrev qR:tL SV:=.leaf (.agg [eF,aD,(.int .u8 (.var kB 7))])
abbrev qU:X:=.bin .eql .u64 (.bin .shr .u64 aF az) ak
abbrev qV:tL SV:=.leaf (.bool (.bin .eql .u64 ai ai))
abbrev qW:tL SV:=.leaf (.agg [aO,iE])
abbrev qX:X:=.bin .eql .i64 dQ ag
abbrev qY:X:=.bin .eql .i64 dQ ak
abbrev qZ:X:=.bin .eql .i64 dQ bg
abbrev q8:X:=.ite qX (.lit 2147483648) (.ite qY ag (.ite qZ jB ag))
abbrev q9:tL SV:=.leaf (.agg [(.int .u64 (.bin .sub .u64 ag q8)),jg])
abbrev rf:X:=.bin .gtr .i64 iL (.lit 64)
abbrev rq:X:=.bin .lss .i64 iL ag
abbrev ry:List X:=[eU,eX,eZ,eY,(.bin .sub .i64 (.bin .sub .i64 ag iL) ak)]
abbrev rC:List X:=[fB,fA,fe,fq,ag,kX,iJ]
abbrev rD:X:=.bin .gtr .i64 (.var kI 21) ag
abbrev rG:SV:=.int .u64 (.bin .sub .u64 ag fw)
abbrev rH:List X:=[eU,eX,eZ,eY,(.bin .add .i64 iL ak),kX,iJ]
abbrev rJ:X:=.bin .gtr .i64 (.var kI 17) ag
abbrev rM:SV:=.int .u64 (.bin .sub .u64 ag fA)
abbrev rQ:X:=.ite qX (.lit 2147483647) (.ite qY (.lit 4294967295) (.ite qZ (.lit 9223372036854775807) iT))
abbrev rR:tL SV:=.leaf (.agg [(.int .u64 rQ),jg])
abbrev rT:tL SV:=.ite dP (.leaf (.agg [aO,aO,j5])) jq
abbrev rU:tL SV:=.leaf (.agg [jX,nH,iE])
abbrev rV:tL SV:=.leaf (.tup [iE,iE])
abbrev rX:tL SV:=.leaf (.tup [jk,jg])
abbrev rY:tL SV:=.ite gD rX (.leaf (.tup [jk,iE]))
abbrev rZ:tL SV:=.ite lC rX (.leaf (.tup [jk,iE]))
abbrev r9:tL SV:=.ite gD rV (.leaf (.tup [ji,iE]))
abbrev si:tL SV:=.leaf (.tup [jg,iE])
abbrev sj:tL SV:=.ite kN r9 (.ite gD (.leaf (.tup [ji,iE])) rV)
abbrev su:tL SV:=.ite kN r9 (.ite gD (.leaf (.tup [(.int .u8 (.bin .add .u8 ak (.conv .u8 (.bin .sub .i64 ag (.var kI 25))))),iE])) (.leaf (.tup [(.int .u8 (.bin .add .u8 ak (.conv .u8 (.var kI 25)))),iE])))
abbrev sw:tL SV:=.call 76 iV 7 5 (.call 76 jw 12 5 (.ite kL (.ite kM (.ite kN r9 (.ite gD si si)) (.ite kN r9 r9)) (.ite kM (.ite oM sj sj) (.call 147 mG 17 4 (.call 147 mH 21 4 (.call 180 [jl,fq,fu,fw,ig,jI,fC,fG,fI,fK] 25 1 (.ite oM (.ite (.bin .eql .u8 ja ag) si su) su)))))))
abbrev sD:tL SV:=.leaf (.agg [(.int .i64 ak),aO,aO,iE])
abbrev sF:X:=.not (.bin .leq .u8 jA di)
abbrev sG:X:=.bin .gtr .u8 (.var kB 4) ak
abbrev sH:X:=.not (.bin .eql .u8 kX ag)
abbrev sI:List X:=[dQ,eD,aC]
abbrev sJ:List X:=[dQ,eH,eQ]
abbrev sK:X:=.not (.and (.bin .eql .u64 eT ag) (.and (.bin .eql .u64 eU ag) ak))
abbrev sM:X:=.bin .eql .u8 (.var kB 4) ak
abbrev sN:List X:=[dQ,jA,sM,eD,aC,eH,eQ]
abbrev sO:tL SV:=.leaf (.agg [dH,iN,il,(.int .u8 (.var kB 15))])
abbrev sP:X:=.and (.bin .eql .u64 eH ag) (.and (.bin .eql .u64 eQ ag) ak)
abbrev sQ:SV:=.int .u8 (.var kB 14)
abbrev sS:tL SV:=.leaf (.agg [dH,fZ,iN,sQ])
abbrev sU:List X:=[dQ,eD,aC,eH,eQ]
abbrev sV:X:=.not (.bin .lss .i64 kX di)
abbrev sW:tL SV:=.leaf (.agg [dH,aO,(.int .u64 ja),sQ])
abbrev sZ:tL SV:=.leaf gH
abbrev tq:List X:=[dI,ig,fC]
abbrev tu:X:=.bin .neq .u8 (.var kB 22) ag
abbrev tC:X:=.bin .eql .u8 (.var kB 41) ag
abbrev tH:tL SV:=.call 18 [dI,ag,(.bin .sub .i64 jh ak),eY,fB] 25 2 (.call 19 [dI,ag,ag,fA,fe,jQ,jS] 27 3 (.call 12 [(.lit 7),dI,ag,ag,ag,jT,mI,fq,fu,ag,ag] 30 4 (.call 10 tq 34 3 (.call 10 [dI,fq,fu] 37 3 (.ite tu ay (.ite (.bin .neq .u8 (.var kB 29) ag) ay (.ite qa ay (.call 16 [(.var .bool 37),(.var .nat 38),(.var kI 39),mW,(.var .nat 35),(.bin .add .i64 (.var kI 36) ak)] 40 1 (.ite (.var .bool 40) ay (.call 20 tq 41 2 (.call 20 [dI,mK,mM] 43 2 (.ite tC (.ite (.bin .eql .u8 (.var kB 41) (.var kB 43)) sZ ay) (.ite (.bin .eql .u8 (.var kB 43) ag) ay (.ite (.and (.bin .eql .u64 ig mK) (.and (.bin .eql .u64 fC mM) ak)) sZ ay))))))))))))))
abbrev tJ:tL SV:=.call 19 [dI,ag,ag,fA,fe,fI,fK] 25 3 (.call 12 [(.lit 7),dI,ag,ag,ag,jQ,jS,fq,fu,ag,ag] 28 4 (.call 10 tq 32 3 (.call 10 [dI,fq,fu] 35 3 (.ite tu ay (.ite pG ay (.ite (.bin .neq .u8 (.var kB 31) ag) ay (.call 16 [mP,(.var .nat 36),(.var kI 37),(.var .bool 32),(.var .nat 33),(.bin .add .i64 (.var kI 34) ak)] 38 1 (.ite (.var .bool 38) ay (.call 20 tq 39 2 (.call 20 [dI,jU,jW] 41 2 (.ite (.bin .eql .u8 oU ag) (.ite (.bin .eql .u8 oU (.var kB 41)) sZ ay) (.ite tC ay (.ite (.and (.bin .eql .u64 ig jU) (.and (.bin .eql .u64 fC jW) ak)) sZ ay)))))))))))))
def aaT:tL SV :=
 (.leaf (.bool (.and ah (.and aj ak))))
theorem asv:uN (ctx E0) 3000 48 (uF Lj.a (uC 0 (tO Lj.a))) (tO Lj.a).length=aaT:=by kernel_rfl
def Oy:List Int->List Int:=uq (uw E0) Lj aaT
theorem ahB:uz prog gG ⟨48,Lj,Oy⟩:=vC (vD Ai) 3000 asv (by kernel_rfl)
def Oz:Ct:=⟨[.agg [kU,kU],.sc kI],[.sc .bool]⟩
def aaU:tL SV :=
 (.ite av ay (.ite (.bin .gtr .i64 au (.lit 127)) ay (.ite (.bin .gtr .i64 au az) (.leaf (.bool (.bin .eql .u64 (.bin .and .u64 (.bin .shr .u64 aa (.bin .sub .i64 au (.lit 64))) ak) ak))) (.leaf (.bool (.bin .eql .u64 (.bin .and .u64 (.bin .shr .u64 ai au) ak) ak))))))
theorem asw:uN (ctx E0) 3000 42 (uF Oz.a (uC 0 (tO Oz.a))) (tO Oz.a).length=aaU:=by kernel_rfl
def Gm:List Int->List Int:=uq (uw E0) Oz aaU
theorem asx:uz prog gG ⟨42,Oz,Gm⟩:=vC (vD Ai) 3000 asw (by kernel_rfl)
def OA:Ct:=⟨[.agg [kU,kU],.agg [kU,kU]],[.agg [kU,kU],.sc .bool]⟩
def aaV:tL SV :=
 (.call 75 [ai,aA,ag] 4 2 (.call 75 [aa,aB,(.var .bit 5)] 6 2 aH))
theorem asy:uN (ctx E0) 3000 44 (uF OA.a (uC 0 (tO OA.a))) (tO OA.a).length=aaV:=by kernel_rfl
def Ch:List Int->List Int:=uq (uw E0) OA aaV
theorem asz:uz prog gG ⟨44,OA,Ch⟩:=vC (vD Ai) 3000 asy (by kernel_rfl)
def OB:Ct:=⟨[.agg [kU,kU],.agg [kU,kU]],[.agg [kU,kU],.sc .bool]⟩
def aaW:tL SV :=
 (.call 228 [ai,aA,ag] 4 2 (.call 228 [aa,aB,(.var .bit 5)] 6 2 aH))
theorem asA:uN (ctx E0) 3000 229 (uF OB.a (uC 0 (tO OB.a))) (tO OB.a).length=aaW:=by kernel_rfl
def Gn:List Int->List Int:=uq (uw E0) OB aaW
theorem asB:uz prog gG ⟨229,OB,Gn⟩:=vC (vD Ai) 3000 asA (by kernel_rfl)
def OC:Ct:=⟨[.sc kU,.sc kU],[.agg [kU,kU]]⟩
def aaX:tL SV :=
 (.call 288 [aa,ai] 2 2 (.leaf (.agg [aJ,aK])))
theorem asC:uN (ctx E0) 3000 268 (uF OC.a (uC 0 (tO OC.a))) (tO OC.a).length=aaX:=by kernel_rfl
def OD:List Int->List Int:=uq (uw E0) OC aaX
theorem asD:uz prog gG ⟨268,OC,OD⟩:=vC (vD Ai) 3000 asC (by kernel_rfl)
def OE:Ct:=⟨[.agg [kU,kU],.agg [kU,kU]],[.agg [kU,kU,kU,kU]]⟩
def aaY:tL SV :=
 (.leaf (.agg [aK,aJ,aL,aM]))
theorem asE:uN (ctx E0) 3000 147 (uF OE.a (uC 0 (tO OE.a))) (tO OE.a).length=aaY:=by kernel_rfl
def Fx:List Int->List Int:=uq (uw E0) OE aaY
theorem asF:uz prog gG ⟨147,OE,Fx⟩:=vC (vD Ai) 3000 asE (by kernel_rfl)
def OG:Ct:=⟨[.agg [kU,kU]],[.agg [kU,kU,kU,kU]]⟩
def aaZ:tL SV :=
 (.leaf (.agg [aL,aM,aO,aO]))
theorem asG:uN (ctx E0) 3000 152 (uF OG.a (uC 0 (tO OG.a))) (tO OG.a).length=aaZ:=by kernel_rfl
def Ll:List Int->List Int:=uq (uw E0) OG aaZ
theorem asH:uz prog gG ⟨152,OG,Ll⟩:=vC (vD Ai) 3000 asG (by kernel_rfl)
def OH:Ct:=⟨[.agg [kU,kU,kU,kU]],[.agg [kU,kU]]⟩
def aa0:tL SV :=
 (.leaf (.agg [aK,aJ]))
theorem asI:uN (ctx E0) 3000 177 (uF OH.a (uC 0 (tO OH.a))) (tO OH.a).length=aa0:=by kernel_rfl
def Gp:List Int->List Int:=uq (uw E0) OH aa0
theorem asJ:uz prog gG ⟨177,OH,Gp⟩:=vC (vD Ai) 3000 asI (by kernel_rfl)
def OI:Ct:=⟨[.agg [kU,kU,kU,kU]],[.agg [kU,kU]]⟩
def aa1:tL SV :=
 (.leaf (.agg [aL,aM]))
theorem asK:uN (ctx E0) 3000 241 (uF OI.a (uC 0 (tO OI.a))) (tO OI.a).length=aa1:=by kernel_rfl
def Gq:List Int->List Int:=uq (uw E0) OI aa1
theorem asL:uz prog gG ⟨241,OI,Gq⟩:=vC (vD Ai) 3000 asK (by kernel_rfl)
def OJ:Ct:=⟨[.agg [kU,kU,kU,kU]],[.sc .bool]⟩
def aa2:tL SV :=
 (.leaf (.bool (.and ah (.and aj (.and (.bin .eql .u64 aB ag) (.and (.bin .eql .u64 aA ag) ak))))))
theorem asM:uN (ctx E0) 3000 132 (uF OJ.a (uC 0 (tO OJ.a))) (tO OJ.a).length=aa2:=by kernel_rfl
def Ci:List Int->List Int:=uq (uw E0) OJ aa2
theorem asN:uz prog gG ⟨132,OJ,Ci⟩:=vC (vD Ai) 3000 asM (by kernel_rfl)
def Lm:Ct:=⟨[.agg [kU,kU],.sc kI],[.agg [kU,kU]]⟩
def aa3:tL SV :=
 (.leaf (.agg [(.int .u64 (.bin .or .u64 (.bin .shl .u64 (.ite (.bin .lss .i64 aU ag) ag (.ite (.bin .eql .i64 aU ag) ai aa)) aV) (.bin .shr .u64 (.bin .shr .u64 (.ite (.bin .lss .i64 (.bin .sub .i64 aU ak) ag) ag ai) ak) aW))),(.int .u64 (.bin .or .u64 (.bin .shl .u64 (.ite (.bin .lss .i64 (.bin .sub .i64 ag aT) ag) ag ai) aV) (.bin .shr .u64 ag aW)))]))
theorem asO:uN (ctx E0) 3000 43 (uF Lm.a (uC 0 (tO Lm.a))) (tO Lm.a).length=aa3:=by kernel_rfl
def zU:List Int->List Int:=uq (uw E0) Lm aa3
theorem ahC:uz prog gG ⟨43,Lm,zU⟩:=vC (vD Ai) 3000 asO (by kernel_rfl)
def OL:Ct:=⟨[.agg [kU,kU],.sc kI],[.agg [kU,kU]]⟩
def aa4:tL SV :=
 (.leaf (.agg [(.int .u64 (.bin .or .u64 (.bin .shl .u64 (.ite (.bin .geq .i64 aZ bg) ag aa) bi) (.bin .shr .u64 (.bin .shr .u64 (.ite (.bin .geq .i64 bq bg) ag (.ite (.bin .eql .i64 bq ag) ai aa)) ak) bu))),(.int .u64 (.bin .or .u64 (.bin .shl .u64 (.ite (.bin .geq .i64 bv bg) ag (.ite (.bin .eql .i64 bv ag) ai aa)) bi) (.bin .shr .u64 (.bin .shr .u64 (.ite (.bin .lss .i64 bz ag) ag (.ite (.bin .eql .i64 bz ag) ai aa)) ak) bu)))]))
theorem asP:uN (ctx E0) 3000 41 (uF OL.a (uC 0 (tO OL.a))) (tO OL.a).length=aa4:=by kernel_rfl
def H5:List Int->List Int:=uq (uw E0) OL aa4
theorem asQ:uz prog gG ⟨41,OL,H5⟩:=vC (vD Ai) 3000 asP (by kernel_rfl)
def OM:Ct:=⟨[.agg [kU,kU,kU,kU],.sc kI],[.agg [kU,kU,kU,kU]]⟩
def aa5:tL SV :=
 (.leaf (.agg [(.int .u64 (.bin .or .u64 (.bin .shl .u64 (.ite (.bin .lss .i64 (.bin .sub .i64 ag bJ) ag) ag aa) bK) (.bin .shr .u64 ag bL))),(.int .u64 (.bin .or .u64 (.bin .shl .u64 (.ite (.bin .lss .i64 bP ag) ag (.ite (.bin .eql .i64 bP ag) aa ai)) bK) (.bin .shr .u64 (.bin .shr .u64 (.ite (.bin .lss .i64 (.bin .sub .i64 bP ak) ag) ag aa) ak) bL))),(.int .u64 (.bin .or .u64 (.bin .shl .u64 (.ite (.bin .lss .i64 bT ag) ag (.ite (.bin .eql .i64 bT ag) aa (.ite (.bin .eql .i64 bT ak) ai aB))) bK) (.bin .shr .u64 (.bin .shr .u64 (.ite (.bin .lss .i64 bU ag) ag (.ite (.bin .eql .i64 bU ag) aa ai)) ak) bL))),(.int .u64 (.bin .or .u64 (.bin .shl .u64 (.ite (.bin .lss .i64 cu ag) ag (.ite (.bin .eql .i64 cu ag) aa (.ite (.bin .eql .i64 cu ak) ai (.ite (.bin .eql .i64 cu bg) aB aA)))) bK) (.bin .shr .u64 (.bin .shr .u64 (.ite (.bin .lss .i64 cz ag) ag (.ite (.bin .eql .i64 cz ag) aa (.ite (.bin .eql .i64 cz ak) ai aB))) ak) bL)))]))
theorem asR:uN (ctx E0) 3000 148 (uF OM.a (uC 0 (tO OM.a))) (tO OM.a).length=aa5:=by kernel_rfl
def OO:List Int->List Int:=uq (uw E0) OM aa5
theorem asS:uz prog gG ⟨148,OM,OO⟩:=vC (vD Ai) 3000 asR (by kernel_rfl)
def OP:Ct:=⟨[.agg [kU,kU,kU,kU],.sc kI],[.agg [kU,kU,kU,kU]]⟩
def aa6:tL SV :=
 (.leaf (.agg [(.int .u64 (.bin .or .u64 (.bin .shl .u64 (.ite (.bin .geq .i64 dh di) ag (.ite (.bin .eql .i64 dh ag) aa (.ite (.bin .eql .i64 dh ak) ai (.ite (.bin .eql .i64 dh bg) aB aA)))) dw) (.bin .shr .u64 (.bin .shr .u64 (.ite (.bin .lss .i64 dx ag) ag (.ite (.bin .eql .i64 dx ag) aa (.ite (.bin .eql .i64 dx ak) ai (.ite (.bin .eql .i64 dx bg) aB aA)))) ak) dz))),(.int .u64 (.bin .or .u64 (.bin .shl .u64 (.ite (.bin .geq .i64 dA di) ag (.ite (.bin .eql .i64 dA ak) ai (.ite (.bin .eql .i64 dA bg) aB aA))) dw) (.bin .shr .u64 (.bin .shr .u64 (.ite (.bin .geq .i64 dC di) ag (.ite (.bin .eql .i64 dC ag) aa (.ite (.bin .eql .i64 dC ak) ai (.ite (.bin .eql .i64 dC bg) aB aA)))) ak) dz))),(.int .u64 (.bin .or .u64 (.bin .shl .u64 (.ite (.bin .geq .i64 dD di) ag (.ite (.bin .eql .i64 dD bg) aB aA)) dw) (.bin .shr .u64 (.bin .shr .u64 (.ite (.bin .geq .i64 dE di) ag (.ite (.bin .eql .i64 dE ak) ai (.ite (.bin .eql .i64 dE bg) aB aA))) ak) dz))),(.int .u64 (.bin .or .u64 (.bin .shl .u64 (.ite (.bin .geq .i64 dF di) ag aA) dw) (.bin .shr .u64 (.bin .shr .u64 (.ite (.bin .geq .i64 dG di) ag (.ite (.bin .eql .i64 dG bg) aB aA)) ak) dz)))]))
theorem asT:uN (ctx E0) 3000 150 (uF OP.a (uC 0 (tO OP.a))) (tO OP.a).length=aa6:=by kernel_rfl
def Dx:List Int->List Int:=uq (uw E0) OP aa6
theorem asU:uz prog gG ⟨150,OP,Dx⟩:=vC (vD Ai) 3000 asT (by kernel_rfl)
def OQ:Ct:=⟨[.agg [kU,kU,kU,kU]],[.sc kI]⟩
def aa7:tL SV :=
 (.ite (.bin .neq .u64 aA ag) (.call 263 [aA] 4 1 (.leaf (.int .i64 (.bin .add .i64 (.lit 192) bE)))) (.ite (.bin .neq .u64 aB ag) (.call 263 [aB] 4 1 (.leaf (.int .i64 (.bin .add .i64 aP bE)))) (.ite (.bin .neq .u64 ai ag) (.call 263 [ai] 4 1 (.leaf (.int .i64 (.bin .add .i64 (.lit 64) bE)))) (.ite (.bin .neq .u64 aa ag) (.call 263 [aa] 4 1 (.leaf (.int .i64 (.bin .add .i64 ag bE)))) (.leaf dH)))))
theorem asV:uN (ctx E0) 3000 176 (uF OQ.a (uC 0 (tO OQ.a))) (tO OQ.a).length=aa7:=by kernel_rfl
def OT:List Int->List Int:=uq (uw E0) OQ aa7
theorem asW:uz prog gG ⟨176,OQ,OT⟩:=vC (vD Ai) 3000 asV (by kernel_rfl)
def OU:Ct:=⟨[.sc kB],[.agg [kI,kI,kI]]⟩
def aa8:tL SV :=
 (.ite dK (.leaf (.agg [dH,dH,dH])) (.ite (.bin .eql .i64 dI ag) (.leaf (.agg [(.int .i64 (.lit 16)),(.int .i64 (.lit 11)),(.int .i64 (.lit 15))])) (.ite (.bin .eql .i64 dI ak) (.leaf (.agg [(.int .i64 (.lit 32)),(.int .i64 (.lit 24)),(.int .i64 (.lit 127))])) (.ite (.bin .eql .i64 dI bg) (.leaf (.agg [(.int .i64 (.lit 64)),(.int .i64 (.lit 53)),dL])) (.leaf (.agg [(.int .i64 aP),(.int .i64 (.lit 113)),dM]))))))
theorem asX:uN (ctx E0) 3000 40 (uF OU.a (uC 0 (tO OU.a))) (tO OU.a).length=aa8:=by kernel_rfl
def Gr:List Int->List Int:=uq (uw E0) OU aa8
theorem asY:uz prog gG ⟨40,OU,Gr⟩:=vC (vD Ai) 3000 asX (by kernel_rfl)
def OV:Ct:=⟨[.sc kB,.sc .bool],[.sc .bool]⟩
def aa9:tL SV :=
 (.call 243 [dI,dO,ak,bV] 2 1 (.leaf (.bool dP)))
theorem asZ:uN (ctx E0) 3000 247 (uF OV.a (uC 0 (tO OV.a))) (tO OV.a).length=aa9:=by kernel_rfl
def OW:List Int->List Int:=uq (uw E0) OV aa9
theorem as0:uz prog gG ⟨247,OV,OW⟩:=vC (vD Ai) 3000 asZ (by kernel_rfl)
def OX:Ct:=⟨[.agg [.bool,kB,kI,kU,kU],.agg [.bool,kB,kI,kU,kU]],[.sc .bool]⟩
def ahD:tL SV :=
 (.ite (.bin .geq .i64 (.ite (.bin .eql .u8 dQ ag) ag (.ite dS ak dU)) ag) (.leaf (.bool (.bin .geq .i64 (.ite dW ag (.ite dX ak dU)) ag))) ay)
theorem as1:uN (ctx E0) 3000 142 (uF OX.a (uC 0 (tO OX.a))) (tO OX.a).length=ahD:=by kernel_rfl
def ahE:List Int->List Int:=uq (uw E0) OX ahD
theorem as2:uz prog gG ⟨142,OX,ahE⟩:=vC (vD Ai) 3000 as1 (by kernel_rfl)
def E1:List uL:=⟨48,Lj,Oy⟩::⟨42,Oz,Gm⟩::⟨44,OA,Ch⟩::⟨229,OB,Gn⟩::⟨268,OC,OD⟩::⟨147,OE,Fx⟩::⟨152,OG,Ll⟩::⟨177,OH,Gp⟩::⟨241,OI,Gq⟩::⟨132,OJ,Ci⟩::⟨43,Lm,zU⟩::⟨41,OL,H5⟩::⟨148,OM,OO⟩::⟨150,OP,Dx⟩::⟨176,OQ,OT⟩::⟨40,OU,Gr⟩::⟨247,OV,OW⟩::⟨142,OX,ahE⟩::E0
theorem Fy:∀ e∈E1,uz prog gG e:=List.forall_mem_cons.2 ⟨ahB,List.forall_mem_cons.2 ⟨asx,List.forall_mem_cons.2 ⟨asz,List.forall_mem_cons.2 ⟨asB,List.forall_mem_cons.2 ⟨asD,List.forall_mem_cons.2 ⟨asF,List.forall_mem_cons.2 ⟨asH,List.forall_mem_cons.2 ⟨asJ,List.forall_mem_cons.2 ⟨asL,List.forall_mem_cons.2 ⟨asN,List.forall_mem_cons.2 ⟨ahC,List.forall_mem_cons.2 ⟨asQ,List.forall_mem_cons.2 ⟨asS,List.forall_mem_cons.2 ⟨asU,List.forall_mem_cons.2 ⟨asW,List.forall_mem_cons.2 ⟨asY,List.forall_mem_cons.2 ⟨as0,List.forall_mem_cons.2 ⟨as2,Ai⟩⟩⟩⟩⟩⟩⟩⟩⟩⟩⟩⟩⟩⟩⟩⟩⟩⟩
theorem ahF:uw E0 75=KR:=uQ (e:=⟨75,_,KR⟩) rfl
theorem ahG:uw E0 228=KS:=uQ (e:=⟨228,_,KS⟩) rfl
theorem as3:uw E0 288=Nz:=uQ (e:=⟨288,_,Nz⟩) rfl
theorem VL:uw E0 263=Hu:=uQ (e:=⟨263,_,Hu⟩) rfl
theorem as4:uw E0 243=Hw:=uQ (e:=⟨243,_,Hw⟩) rfl
def OY:Ct:=⟨[.sc kB],[.sc kI]⟩
def aba:tL SV :=
 (.call 40 dY 1 3 (.leaf (.int .i64 dZ)))
theorem as5:uN (ctx E1) 3000 49 (uF OY.a (uC 0 (tO OY.a))) (tO OY.a).length=aba:=by kernel_rfl
def Ev:List Int->List Int:=uq (uw E1) OY aba
theorem as6:uz prog gG ⟨49,OY,Ev⟩:=vC (vD Fy) 3000 as5 (by kernel_rfl)
def OZ:Ct:=⟨[.sc kB],[.sc kI]⟩
def abb:tL SV :=
 (.call 40 dY 1 3 (.leaf (.int .i64 au)))
theorem as7:uN (ctx E1) 3000 50 (uF OZ.a (uC 0 (tO OZ.a))) (tO OZ.a).length=abb:=by kernel_rfl
def Ew:List Int->List Int:=uq (uw E1) OZ abb
theorem as8:uz prog gG ⟨50,OZ,Ew⟩:=vC (vD Fy) 3000 as7 (by kernel_rfl)
def JL:Ct:=⟨[.sc kB],[.sc kI]⟩
def abd:tL SV :=
 (.call 40 dY 1 3 (.leaf (.int .i64 ed)))
theorem as9:uN (ctx E1) 3000 28 (uF JL.a (uC 0 (tO JL.a))) (tO JL.a).length=abd:=by kernel_rfl
def Lp:List Int->List Int:=uq (uw E1) JL abd
theorem ahH:uz prog gG ⟨28,JL,Lp⟩:=vC (vD Fy) 3000 as9 (by kernel_rfl)
def O0:Ct:=⟨[.agg [kU,kU],.sc kI],[.agg [kU,kU]]⟩
def abe:tL SV :=
 (.call 43 [aa,ai,eu] 3 2 (.call 41 [aA,aF,eu] 5 2 eG))
theorem ata:uN (ctx E1) 3000 27 (uF O0.a (uC 0 (tO O0.a))) (tO O0.a).length=abe:=by kernel_rfl
def H6:List Int->List Int:=uq (uw E1) O0 abe
theorem atb:uz prog gG ⟨27,O0,H6⟩:=vC (vD Fy) 3000 ata (by kernel_rfl)
def Lr:Ct:=⟨[.agg [kU,kU],.agg [kU,kU]],[.agg [kU,kU,kU,kU]]⟩
def abf:tL SV :=
 (.call 268 [aa,aB] 4 2 (.call 268 [ai,aA] 6 2 (.call 147 eO 8 4 (.call 268 [aa,aA] 12 2 (.call 268 [ai,aB] 14 2 (.call 157 [eQ,eT,eU,eX,ag,eY,eZ,ag] 16 5 (.call 157 [fe,fq,fu,fw,ag,fA,fB,ag] 21 5 (.leaf (.agg [fF,fH,fJ,(.int .u64 fK)])))))))))
theorem atc:uN (ctx E1) 3000 218 (uF Lr.a (uC 0 (tO Lr.a))) (tO Lr.a).length=abf:=by kernel_rfl
def VM:List Int->List Int:=uq (uw E1) Lr abf
theorem ahI:uz prog gG ⟨218,Lr,VM⟩:=vC (vD Fy) 3000 atc (by kernel_rfl)
def O1:Ct:=⟨[.agg [kU,kU]],[.agg [kU,kU],.sc kI]⟩
def abg:tL SV :=
 (.call 147 [aa,ai,ag,ag] 2 4 (.call 176 [aB,aA,aF,eD] 6 1 (.ite (.bin .eql .i64 fM ag) (.call 177 [aB,aA,aF,eD] 7 2 (.leaf (.tup [(.agg [fO,fQ]),dH]))) (.call 148 [aB,aA,aF,eD,fT] 7 4 (.call 177 [eH,eQ,eT,eU] 11 2 (.leaf (.tup [(.agg [fV,fZ]),(.int .i64 fT)])))))))
theorem atd:uN (ctx E1) 3000 121 (uF O1.a (uC 0 (tO O1.a))) (tO O1.a).length=abg:=by kernel_rfl
def O3:List Int->List Int:=uq (uw E1) O1 abg
theorem ate:uz prog gG ⟨121,O1,O3⟩:=vC (vD Fy) 3000 atd (by kernel_rfl)
def O4:Ct:=⟨[.agg [kU,kU,kU,kU],.sc kI],[.sc .bool]⟩
def abh:tL SV :=
 (.call 150 gm 5 4 (.call 148 [eD,aC,eH,eQ,bE] 9 4 (.leaf (.bool (.not (.and (.bin .eql .u64 eT aa) (.and (.bin .eql .u64 eU ai) (.and (.bin .eql .u64 eX aB) (.and (.bin .eql .u64 eZ aA) ak)))))))))
theorem atf:uN (ctx E1) 3000 239 (uF O4.a (uC 0 (tO O4.a))) (tO O4.a).length=abh:=by kernel_rfl
def H7:List Int->List Int:=uq (uw E1) O4 abh
theorem atg:uz prog gG ⟨239,O4,H7⟩:=vC (vD Fy) 3000 atf (by kernel_rfl)
def O5:Ct:=⟨[.agg [kU,kU,kU,kU]],[.agg [kU,kU,kU,kU],.sc kI]⟩
def abj:tL SV :=
 (.call 176 gp 4 1 (.ite gq (.leaf (.tup [(.agg [aM,aL,aJ,aK]),dH])) (.call 148 [aa,ai,aB,aA,gy] 5 4 (.leaf (.tup [gz,(.int .i64 gy)])))))
theorem ath:uN (ctx E1) 3000 240 (uF O5.a (uC 0 (tO O5.a))) (tO O5.a).length=abj:=by kernel_rfl
def O6:List Int->List Int:=uq (uw E1) O5 abj
theorem ati:uz prog gG ⟨240,O5,O6⟩:=vC (vD Fy) 3000 ath (by kernel_rfl)
def JM:Ct:=⟨[.agg [kU,kU],.sc kU,.agg [kU,kU]],[.agg [kU,kU],.sc .bool]⟩
def abk:tL SV :=
 (.call 44 [aa,ai,aa,ai] 5 3 (.call 229 [eD,(.bin .or .u64 aC aB),aA,aF] 8 3 (.ite gD gI (.ite (.not gJ) gI (.leaf (.tup [(.agg [eF,(.int .u64 (.bin .or .u64 aC aB))]),ax]))))))
theorem atj:uN (ctx E1) 3000 220 (uF JM.a (uC 0 (tO JM.a))) (tO JM.a).length=abk:=by kernel_rfl
def Ls:List Int->List Int:=uq (uw E1) JM abk
theorem VN:uz prog gG ⟨220,JM,Ls⟩:=vC (vD Fy) 3000 atj (by kernel_rfl)
def Lt:Ct:=⟨[.agg [kU,kU],.agg [kU,kU]],[.sc kI]⟩
def abl:tL SV :=
 (.leaf (.int .i64 (.ite (.bin .neq .i64 gL ag) gL (.ite (.bin .neq .i64 gP ag) gP ag))))
theorem atl:uN (ctx E1) 3000 156 (uF Lt.a (uC 0 (tO Lt.a))) (tO Lt.a).length=abl:=by kernel_rfl
def H8:List Int->List Int:=uq (uw E1) Lt abl
theorem ahJ:uz prog gG ⟨156,Lt,H8⟩:=vC (vD Fy) 3000 atl (by kernel_rfl)
def E2:List uL:=⟨49,OY,Ev⟩::⟨50,OZ,Ew⟩::⟨28,JL,Lp⟩::⟨27,O0,H6⟩::⟨218,Lr,VM⟩::⟨121,O1,O3⟩::⟨239,O4,H7⟩::⟨240,O5,O6⟩::⟨220,JM,Ls⟩::⟨156,Lt,H8⟩::E1
theorem Lu:∀ e∈E2,uz prog gG e:=List.forall_mem_cons.2 ⟨as6,List.forall_mem_cons.2 ⟨as8,List.forall_mem_cons.2 ⟨ahH,List.forall_mem_cons.2 ⟨atb,List.forall_mem_cons.2 ⟨ahI,List.forall_mem_cons.2 ⟨ate,List.forall_mem_cons.2 ⟨atg,List.forall_mem_cons.2 ⟨ati,List.forall_mem_cons.2 ⟨VN,List.forall_mem_cons.2 ⟨ahJ,Fy⟩⟩⟩⟩⟩⟩⟩⟩⟩⟩
theorem abm:uw E1 40=Gr:=uQ (e:=⟨40,_,Gr⟩) rfl
theorem atm:uw E1 43=zU:=uQ (e:=⟨43,_,zU⟩) rfl
theorem atn:uw E1 41=H5:=uQ (e:=⟨41,_,H5⟩) rfl
theorem VO:uw E1 268=OD:=uQ (e:=⟨268,_,OD⟩) rfl
theorem ahK:uw E1 147=Fx:=uQ (e:=⟨147,_,Fx⟩) rfl
theorem ahL:uw E1 157=En:=uQ (e:=⟨157,_,En⟩) rfl
theorem ahM:uw E1 176=OT:=uQ (e:=⟨176,_,OT⟩) rfl
theorem ahN:uw E1 177=Gp:=uQ (e:=⟨177,_,Gp⟩) rfl
theorem abn:uw E1 148=OO:=uQ (e:=⟨148,_,OO⟩) rfl
theorem ato:uw E1 150=Dx:=uQ (e:=⟨150,_,Dx⟩) rfl
theorem atp:uw E1 44=Ch:=uQ (e:=⟨44,_,Ch⟩) rfl
theorem atq:uw E1 229=Gn:=uQ (e:=⟨229,_,Gn⟩) rfl
def O7:Ct:=⟨[.sc kB,.agg [kU,kU]],[.agg [kU,kU]]⟩
def abo:tL SV :=
 (.call 28 dY 3 1 (.call 27 [ai,aB,dZ] 4 2 (.leaf (.agg [aG,eF]))))
theorem atr:uN (ctx E2) 3000 8 (uF O7.a (uC 0 (tO O7.a))) (tO O7.a).length=abo:=by kernel_rfl
def Dy:List Int->List Int:=uq (uw E2) O7 abo
theorem att:uz prog gG ⟨8,O7,Dy⟩:=vC (vD Lu) 3000 atr (by kernel_rfl)
def O8:Ct:=⟨[.sc kB,.sc .bool,.sc kI,.agg [kU,kU]],[.agg [kU,kU]]⟩
def abp:tL SV :=
 (.call 40 dY 5 3 (.ite (.bin .eql .i64 gQ ag) (.leaf gT) (.ite av iy (.ite (.bin .gtr .i64 au (.lit 1048576)) iy (.call 27 [ag,(.conv .u64 au),gV] 8 2 iw)))))
theorem atu:uN (ctx E2) 3000 18 (uF O8.a (uC 0 (tO O8.a))) (tO O8.a).length=abp:=by kernel_rfl
def Fz:List Int->List Int:=uq (uw E2) O8 abp
theorem atv:uz prog gG ⟨18,O8,Fz⟩:=vC (vD Lu) 3000 atu (by kernel_rfl)
def O9:Ct:=⟨[.sc kB,.sc kI],[.sc .bool]⟩
def abq:tL SV :=
 (.ite dJ (.call 49 dY 2 1 (.leaf (.bool (.bin .gtr .i64 ed au)))) ay)
theorem atw:uN (ctx E2) 3000 186 (uF O9.a (uC 0 (tO O9.a))) (tO O9.a).length=abq:=by kernel_rfl
def Pb:List Int->List Int:=uq (uw E2) O9 abq
theorem atx:uz prog gG ⟨186,O9,Pb⟩:=vC (vD Lu) 3000 atw (by kernel_rfl)
def Pf:Ct:=⟨[.agg [kU,kU,kU,kU],.sc kI],[.agg [kU,kU,kU,kU]]⟩
def abr:tL SV :=
 (.call 150 gm 5 4 (.call 239 gm 9 1 (.ite iC (.leaf (.agg [(.int .u64 (.bin .or .u64 eD ak)),aD,fO,fQ])) (.leaf gz))))
theorem aty:uN (ctx E2) 3000 188 (uF Pf.a (uC 0 (tO Pf.a))) (tO Pf.a).length=abr:=by kernel_rfl
def Dz:List Int->List Int:=uq (uw E2) Pf abr
theorem atz:uz prog gG ⟨188,Pf,Dz⟩:=vC (vD Lu) 3000 aty (by kernel_rfl)
def Pg:Ct:=⟨[.agg [kU,kU,kU,kU],.sc kI],[.sc kB]⟩
def abt:tL SV :=
 (.ite iD (.leaf iE) (.ite iF (.leaf iE) (.call 239 [aa,ai,aB,aA,iH] 5 1 (.leaf (.int .u8 (.ite (.ite (.bin .eql .i64 (.bin .shr .i64 iH aS) bg) (.bin .eql .u64 (.bin .and .u64 (.bin .shr .u64 aB iI) ak) ak) (.bin .eql .u64 (.bin .and .u64 (.bin .shr .u64 aA iI) ak) ak)) (.ite iJ bV bg) (.ite iJ ak ag)))))))
theorem atA:uN (ctx E2) 3000 242 (uF Pg.a (uC 0 (tO Pg.a))) (tO Pg.a).length=abt:=by kernel_rfl
def Ph:List Int->List Int:=uq (uw E2) Pg abt
theorem atB:uz prog gG ⟨242,Pg,Ph⟩:=vC (vD Lu) 3000 atA (by kernel_rfl)
def Pi:Ct:=⟨[.agg [.bool,kB,kI,kU,kU],.agg [.bool,kB,kI,kU,kU]],[.sc kI,.agg [kU,kU,kU,kU]]⟩
def ahO:tL SV :=
 (.ite (.bin .neq .u8 dQ ak) (.ite (.bin .neq .u8 dQ bg) iK iP) iP)
theorem atC:uN (ctx E2) 3000 144 (uF Pi.a (uC 0 (tO Pi.a))) (tO Pi.a).length=ahO:=by kernel_rfl
def ahP:List Int->List Int:=uq (uw E2) Pi ahO
theorem atD:uz prog gG ⟨144,Pi,ahP⟩:=vC (vD Lu) 3000 atC (by kernel_rfl)
def E3:List uL:=⟨8,O7,Dy⟩::⟨18,O8,Fz⟩::⟨186,O9,Pb⟩::⟨188,Pf,Dz⟩::⟨242,Pg,Ph⟩::⟨144,Pi,ahP⟩::E2
theorem JO:∀ e∈E3,uz prog gG e:=List.forall_mem_cons.2 ⟨att,List.forall_mem_cons.2 ⟨atv,List.forall_mem_cons.2 ⟨atx,List.forall_mem_cons.2 ⟨atz,List.forall_mem_cons.2 ⟨atB,List.forall_mem_cons.2 ⟨atD,Lu⟩⟩⟩⟩⟩⟩
theorem atE:uw E2 28=Lp:=uQ (e:=⟨28,_,Lp⟩) rfl
theorem R9:uw E2 27=H6:=uQ (e:=⟨27,_,H6⟩) rfl
theorem atF:uw E2 40=Gr:=uQ (e:=⟨40,_,Gr⟩) rfl
theorem Pj:uw E2 43=zU:=uQ (e:=⟨43,_,zU⟩) rfl
theorem Pk:uw E2 44=Ch:=uQ (e:=⟨44,_,Ch⟩) rfl
theorem atG:uw E2 49=Ev:=uQ (e:=⟨49,_,Ev⟩) rfl
theorem atH:uw E2 150=Dx:=uQ (e:=⟨150,_,Dx⟩) rfl
theorem ahQ:uw E2 239=H7:=uQ (e:=⟨239,_,H7⟩) rfl
def Pm:Ct:=⟨[.sc kB,.sc .bool],[.agg [kU,kU]]⟩
def abu:tL SV :=
 (.call 18 [dI,dO,ag,ag,ag] 2 2 (.leaf (.agg [aJ,aK])))
theorem atI:uN (ctx E3) 3000 149 (uF Pm.a (uC 0 (tO Pm.a))) (tO Pm.a).length=abu:=by kernel_rfl
def Pn:List Int->List Int:=uq (uw E3) Pm abu
theorem atJ:uz prog gG ⟨149,Pm,Pn⟩:=vC (vD JO) 3000 atI (by kernel_rfl)
def Po:Ct:=⟨[.sc kB,.sc .bool],[.agg [kU,kU]]⟩
def abv:tL SV :=
 (.call 49 dY 2 1 (.call 18 [dI,dO,(.bin .add .i64 iQ ak),ag,ag] 3 2 iR))
theorem atK:uN (ctx E3) 3000 78 (uF Po.a (uC 0 (tO Po.a))) (tO Po.a).length=abv:=by kernel_rfl
def H9:List Int->List Int:=uq (uw E3) Po abv
theorem atL:uz prog gG ⟨78,Po,H9⟩:=vC (vD JO) 3000 atK (by kernel_rfl)
def Pp:Ct:=⟨[.sc kB,.sc .bool],[.agg [kU,kU]]⟩
def abw:tL SV :=
 (.call 49 dY 2 1 (.call 18 [dI,dO,iQ,iT,iT] 3 2 iR))
theorem atM:uN (ctx E3) 3000 245 (uF Pp.a (uC 0 (tO Pp.a))) (tO Pp.a).length=abw:=by kernel_rfl
def Pq:List Int->List Int:=uq (uw E3) Pp abw
theorem atN:uz prog gG ⟨245,Pp,Pq⟩:=vC (vD JO) 3000 atM (by kernel_rfl)
def Ps:Ct:=⟨[.sc kB,.agg [kU,kU]],[.sc .bool,.sc kI,.agg [kU,kU]]⟩
def abx:tL SV :=
 (.call 40 dY 3 3 (.ite iU (.leaf (.tup [ax,dH,gT])) (.call 8 iV 6 2 (.call 41 [aC,eH,iW] 8 2 (.call 42 [ai,aB,(.bin .sub .i64 dZ ak)] 10 1 (.call 27 [eQ,eT,(.bin .sub .i64 dZ bE)] 11 2 (.call 27 [ai,aB,iW] 13 2 (.leaf (.tup [(.bool gJ),(.int .i64 (.conv .i64 eZ)),(.agg [iN,il])])))))))))
theorem atO:uN (ctx E3) 3000 17 (uF Ps.a (uC 0 (tO Ps.a))) (tO Ps.a).length=abx:=by kernel_rfl
def DC:List Int->List Int:=uq (uw E3) Ps abx
theorem atP:uz prog gG ⟨17,Ps,DC⟩:=vC (vD JO) 3000 atO (by kernel_rfl)
def Pt:Ct:=⟨[.sc kB,.sc .bool,.sc kI,.agg [kU,kU]],[.agg [kU,kU]]⟩
def aby:tL SV :=
 (.ite (.bin .eql .i64 au ag) (.call 50 dY 5 1 (.call 42 [aA,aF,gZ] 6 1 (.ite iX (.call 18 [dI,dO,ak,aA,aF] 7 2 iY) (.call 18 [dI,dO,au,aA,aF] 7 2 iY)))) (.call 18 [dI,dO,au,aA,aF] 5 2 eG))
theorem atQ:uN (ctx E3) 3000 189 (uF Pt.a (uC 0 (tO Pt.a))) (tO Pt.a).length=aby:=by kernel_rfl
def Gs:List Int->List Int:=uq (uw E3) Pt aby
theorem atS:uz prog gG ⟨189,Pt,Gs⟩:=vC (vD JO) 3000 atQ (by kernel_rfl)
def Pv:Ct:=⟨[.sc kB],[.agg [kU,kU]]⟩
def abz:tL SV :=
 (.call 49 dY 1 1 (.call 50 dY 2 1 (.call 43 [ag,ak,(.bin .sub .i64 au bg)] 3 2 (.call 18 [dI,ag,(.bin .add .i64 (.bin .mul .i64 bg ed) ak),aA,aF] 5 2 eG))))
theorem atT:uN (ctx E3) 3000 124 (uF Pv.a (uC 0 (tO Pv.a))) (tO Pv.a).length=abz:=by kernel_rfl
def Lv:List Int->List Int:=uq (uw E3) Pv abz
theorem atU:uz prog gG ⟨124,Pv,Lv⟩:=vC (vD JO) 3000 atT (by kernel_rfl)
def Pw:Ct:=⟨[.agg [kU,kU,kU,kU],.sc kI,.sc kB,.sc .bool],[.agg [kU,kU],.sc .bool]⟩
def abA:tL SV :=
 (.ite iD iZ (.ite iF iZ (.ite (.not (.bin .leq .u8 (.var kB 5) di)) iZ (.call 150 [aa,ai,aB,aA,gy] 7 4 (.call 241 [eH,eQ,eT,eU] 11 2 (.call 242 gm 13 1 (.call 243 [(.var kB 5),iX,(.bin .eql .u64 (.bin .and .u64 eZ ak) ak),ja] 14 1 (.ite jb (.call 44 [eX,eZ,ag,ak] 15 3 (.leaf (.tup [(.agg [iq,jc]),jd]))) (.leaf (.tup [(.agg [fV,fZ]),jd]))))))))))
theorem atV:uN (ctx E3) 3000 184 (uF Pw.a (uC 0 (tO Pw.a))) (tO Pw.a).length=abA:=by kernel_rfl
def JP:List Int->List Int:=uq (uw E3) Pw abA
theorem atW:uz prog gG ⟨184,Pw,JP⟩:=vC (vD JO) 3000 atV (by kernel_rfl)
def E4:List uL:=⟨149,Pm,Pn⟩::⟨78,Po,H9⟩::⟨245,Pp,Pq⟩::⟨17,Ps,DC⟩::⟨189,Pt,Gs⟩::⟨124,Pv,Lv⟩::⟨184,Pw,JP⟩::E3
theorem Sa:∀ e∈E4,uz prog gG e:=List.forall_mem_cons.2 ⟨atJ,List.forall_mem_cons.2 ⟨atL,List.forall_mem_cons.2 ⟨atN,List.forall_mem_cons.2 ⟨atP,List.forall_mem_cons.2 ⟨atS,List.forall_mem_cons.2 ⟨atU,List.forall_mem_cons.2 ⟨atW,JO⟩⟩⟩⟩⟩⟩⟩
theorem JQ:uw E3 18=Fz:=uQ (e:=⟨18,_,Fz⟩) rfl
theorem abB:uw E3 49=Ev:=uQ (e:=⟨49,_,Ev⟩) rfl
theorem atX:uw E3 40=Gr:=uQ (e:=⟨40,_,Gr⟩) rfl
theorem atY:uw E3 8=Dy:=uQ (e:=⟨8,_,Dy⟩) rfl
theorem atZ:uw E3 41=H5:=uQ (e:=⟨41,_,H5⟩) rfl
theorem ahR:uw E3 42=Gm:=uQ (e:=⟨42,_,Gm⟩) rfl
theorem ahS:uw E3 27=H6:=uQ (e:=⟨27,_,H6⟩) rfl
theorem ahT:uw E3 50=Ew:=uQ (e:=⟨50,_,Ew⟩) rfl
theorem ahU:uw E3 43=zU:=uQ (e:=⟨43,_,zU⟩) rfl
theorem at0:uw E3 150=Dx:=uQ (e:=⟨150,_,Dx⟩) rfl
theorem at1:uw E3 241=Gq:=uQ (e:=⟨241,_,Gq⟩) rfl
theorem at5:uw E3 242=Ph:=uQ (e:=⟨242,_,Ph⟩) rfl
theorem at6:uw E3 243=Hw:=uQ (e:=⟨243,_,Hw⟩) rfl
theorem at7:uw E3 44=Ch:=uQ (e:=⟨44,_,Ch⟩) rfl
def Px:Ct:=⟨[.sc kB,.agg [kU,kU]],[.sc kB,.sc .bool]⟩
def abC:tL SV :=
 (.ite dK (.leaf (.tup [iE,ax])) (.call 17 iV 3 4 (.call 48 [eD,aC] 7 1 (.call 49 dY 8 1 (.ite gq (.ite gD (.leaf (.tup [iE,jf])) (.leaf (.tup [jg,jf]))) (.ite (.bin .lss .i64 bE (.bin .add .i64 (.bin .mul .i64 bg jh) ak)) (.leaf (.tup [ji,jf])) (.ite gD (.leaf (.tup [jk,jf])) (.call 50 dY 9 1 (.call 42 [eD,aC,(.bin .sub .i64 jl bg)] 10 1 (.ite gJ jm jo))))))))))
theorem aua:uN (ctx E4) 3000 20 (uF Px.a (uC 0 (tO Px.a))) (tO Px.a).length=abC:=by kernel_rfl
def Gt:List Int->List Int:=uq (uw E4) Px abC
theorem aub:uz prog gG ⟨20,Px,Gt⟩:=vC (vD Sa) 3000 aua (by kernel_rfl)
def Py:Ct:=⟨[.sc kB,.sc kB,.sc .bool],[.agg [kU,kU,kB]]⟩
def abD:tL SV :=
 (.ite dK jq (.ite jr jq (.call 247 [dQ,dP] 3 1 (.ite je (.call 78 [dI,dP] 4 2 jv) (.call 245 [dI,dP] 4 2 jv)))))
theorem auc:uN (ctx E4) 3000 187 (uF Py.a (uC 0 (tO Py.a))) (tO Py.a).length=abD:=by kernel_rfl
def Lx:List Int->List Int:=uq (uw E4) Py abD
theorem aud:uz prog gG ⟨187,Py,Lx⟩:=vC (vD Sa) 3000 auc (by kernel_rfl)
def Pz:Ct:=⟨[.sc kB,.agg [kU,kU]],[.agg [kU,kU]]⟩
def ahV:tL SV :=
 (.call 124 dY 3 2 (.call 17 jw 5 4 (.leaf (.agg [(.int .u64 (.bin .or .u64 ai eH)),(.int .u64 (.bin .or .u64 aB eQ))]))))
theorem aue:uN (ctx E4) 3000 233 (uF Pz.a (uC 0 (tO Pz.a))) (tO Pz.a).length=ahV:=by kernel_rfl
def ahW:List Int->List Int:=uq (uw E4) Pz ahV
theorem auf:uz prog gG ⟨233,Pz,ahW⟩:=vC (vD Sa) 3000 aue (by kernel_rfl)
def PD:Ct:=⟨[.sc kB,.agg [kU,kU]],[.agg [kU,kU]]⟩
def abE:tL SV :=
 (.call 17 iV 3 4 (.call 18 [dI,(.not je),bE,eD,aC] 7 2 iY))
theorem aug:uN (ctx E4) 3000 45 (uF PD.a (uC 0 (tO PD.a))) (tO PD.a).length=abE:=by kernel_rfl
def LA:List Int->List Int:=uq (uw E4) PD abE
theorem auh:uz prog gG ⟨45,PD,LA⟩:=vC (vD Sa) 3000 aug (by kernel_rfl)
def E5:List uL:=⟨20,Px,Gt⟩::⟨187,Py,Lx⟩::⟨233,Pz,ahW⟩::⟨45,PD,LA⟩::E4
theorem PE:∀ e∈E5,uz prog gG e:=List.forall_mem_cons.2 ⟨aub,List.forall_mem_cons.2 ⟨aud,List.forall_mem_cons.2 ⟨auf,List.forall_mem_cons.2 ⟨auh,Sa⟩⟩⟩⟩
theorem ahX:uw E4 17=DC:=uQ (e:=⟨17,_,DC⟩) rfl
theorem aui:uw E4 48=Oy:=uQ (e:=⟨48,_,Oy⟩) rfl
theorem auj:uw E4 49=Ev:=uQ (e:=⟨49,_,Ev⟩) rfl
theorem auk:uw E4 50=Ew:=uQ (e:=⟨50,_,Ew⟩) rfl
theorem aul:uw E4 42=Gm:=uQ (e:=⟨42,_,Gm⟩) rfl
theorem aum:uw E4 247=OW:=uQ (e:=⟨247,_,OW⟩) rfl
theorem aun:uw E4 78=H9:=uQ (e:=⟨78,_,H9⟩) rfl
theorem auo:uw E4 245=Pq:=uQ (e:=⟨245,_,Pq⟩) rfl
theorem ahY:uw E4 18=Fz:=uQ (e:=⟨18,_,Fz⟩) rfl
def PG:Ct:=⟨[.sc kB,.agg [kU,kU]],[.sc .bool]⟩
def abF:tL SV :=
 (.call 20 iV 3 2 (.leaf (.bool (.bin .geq .u8 jA di))))
theorem aup:uN (ctx E5) 3000 14 (uF PG.a (uC 0 (tO PG.a))) (tO PG.a).length=abF:=by kernel_rfl
def BC:List Int->List Int:=uq (uw E5) PG abF
theorem auq:uz prog gG ⟨14,PG,BC⟩:=vC (vD PE) 3000 aup (by kernel_rfl)
def PH:Ct:=⟨[.sc kB,.agg [kU,kU]],[.sc .bool]⟩
def abG:tL SV :=
 (.call 20 iV 3 2 (.ite dJ (.leaf (.bool (.bin .lss .u8 jA bV))) ay))
theorem aur:uN (ctx E5) 3000 23 (uF PH.a (uC 0 (tO PH.a))) (tO PH.a).length=abG:=by kernel_rfl
def PI:List Int->List Int:=uq (uw E5) PH abG
theorem aus:uz prog gG ⟨23,PH,PI⟩:=vC (vD PE) 3000 aur (by kernel_rfl)
def PK:Ct:=⟨[.sc kB,.agg [kU,kU]],[.agg [.bool,kB,kI,kU,kU]]⟩
def abH:tL SV :=
 (.call 20 iV 3 2 (.call 50 dY 5 1 (.call 49 dY 6 1 (.call 17 iV 7 4 (.ite (.bin .eql .u8 jA bg) (.call 43 [eT,eU,(.bin .sub .i64 aP gQ)] 11 2 (.call 44 [eX,eZ,jB,ag] 13 3 (.leaf (.agg [(.bool jC),jD,(.int .i64 (.bin .sub .i64 jh fM)),iN,il])))) (.ite (.bin .eql .u8 jA ak) (.call 121 [eT,eU] 11 3 (.leaf (.agg [(.bool jC),jD,(.int .i64 (.bin .sub .i64 (.bin .sub .i64 (.bin .add .i64 (.bin .sub .i64 ak fM) aP) gQ) (.var kI 13))),fV,fZ]))) (.leaf (.agg [(.bool jC),jD,dH,aO,aO]))))))))
theorem aut:uN (ctx E5) 3000 76 (uF PK.a (uC 0 (tO PK.a))) (tO PK.a).length=abH:=by kernel_rfl
def Ex:List Int->List Int:=uq (uw E5) PK abH
theorem auu:uz prog gG ⟨76,PK,Ex⟩:=vC (vD PE) 3000 aut (by kernel_rfl)
def PL:Ct:=⟨[.sc kB,.agg [kB,.bool],.sc .bool,.sc kI,.agg [kU,kU,kU,kU]],[.agg [kU,kU,kB]]⟩
def abI:tL SV :=
 (.ite dK jq (.ite jr jq (.call 132 [eD,aC,eH,eQ] 9 1 (.ite iC (.call 149 [dI,je] 10 2 (.leaf (.agg [iM,fV,iE]))) (.call 240 [eD,aC,eH,eQ] 10 5 (.call 50 dY 15 1 (.call 49 dY 16 1 (.call 184 [eU,eX,eZ,eY,jE,dQ,je] 17 3 (.call 42 [fq,fu,jE] 20 1 (.ite jF (.call 186 [dI,jK] 21 1 (.ite jL jM (.ite jO (.ite (.not dP) j4 (.call 188 jP 22 4 (.call 184 jR 26 3 (.call 189 [dI,je,ag,jS,jT] 29 2 (.ite (.var .bool 28) (.ite (.bin .lss .i64 jK jN) jY (.leaf (.agg [jV,jX,j5]))) jZ))))) (.call 189 [dI,je,(.bin .add .i64 (.bin .sub .i64 jK jN) ak),fq,fu] 22 2 ku)))) (.call 186 [dI,jJ] 21 1 (.ite jL jM (.ite jO (.ite (.not dP) j4 j4) (.call 189 [dI,je,(.bin .add .i64 (.bin .sub .i64 jJ jN) ak),fq,fu] 22 2 ku))))))))))))))
theorem auv:uN (ctx E5) 3000 134 (uF PL.a (uC 0 (tO PL.a))) (tO PL.a).length=abI:=by kernel_rfl
def DD:List Int->List Int:=uq (uw E5) PL abI
theorem auw:uz prog gG ⟨134,PL,DD⟩:=vC (vD PE) 3000 auv (by kernel_rfl)
def PM:Ct:=⟨[.sc kB,.agg [kU,kU]],[.sc .bool]⟩
def abJ:tL SV :=
 (.call 20 iV 3 2 (.leaf (.bool (.bin .eql .u8 jA (.lit 5)))))
theorem aux:uN (ctx E5) 3000 126 (uF PM.a (uC 0 (tO PM.a))) (tO PM.a).length=abJ:=by kernel_rfl
def JR:List Int->List Int:=uq (uw E5) PM abJ
theorem auy:uz prog gG ⟨126,PM,JR⟩:=vC (vD PE) 3000 aux (by kernel_rfl)
def E6:List uL:=⟨14,PG,BC⟩::⟨23,PH,PI⟩::⟨76,PK,Ex⟩::⟨134,PL,DD⟩::⟨126,PM,JR⟩::E5
theorem ahZ:∀ e∈E6,uz prog gG e:=List.forall_mem_cons.2 ⟨auq,List.forall_mem_cons.2 ⟨aus,List.forall_mem_cons.2 ⟨auu,List.forall_mem_cons.2 ⟨auw,List.forall_mem_cons.2 ⟨auy,PE⟩⟩⟩⟩⟩
theorem VP:uw E5 20=Gt:=uQ (e:=⟨20,_,Gt⟩) rfl
theorem ah0:uw E5 50=Ew:=uQ (e:=⟨50,_,Ew⟩) rfl
theorem ah1:uw E5 49=Ev:=uQ (e:=⟨49,_,Ev⟩) rfl
theorem auz:uw E5 17=DC:=uQ (e:=⟨17,_,DC⟩) rfl
theorem auA:uw E5 43=zU:=uQ (e:=⟨43,_,zU⟩) rfl
theorem auB:uw E5 44=Ch:=uQ (e:=⟨44,_,Ch⟩) rfl
theorem auC:uw E5 121=O3:=uQ (e:=⟨121,_,O3⟩) rfl
theorem auD:uw E5 132=Ci:=uQ (e:=⟨132,_,Ci⟩) rfl
theorem auE:uw E5 149=Pn:=uQ (e:=⟨149,_,Pn⟩) rfl
theorem auF:uw E5 240=O6:=uQ (e:=⟨240,_,O6⟩) rfl
theorem Sb:uw E5 184=JP:=uQ (e:=⟨184,_,JP⟩) rfl
theorem auG:uw E5 42=Gm:=uQ (e:=⟨42,_,Gm⟩) rfl
theorem ah2:uw E5 186=Pb:=uQ (e:=⟨186,_,Pb⟩) rfl
theorem ah3:uw E5 187=Lx:=uQ (e:=⟨187,_,Lx⟩) rfl
theorem VQ:uw E5 188=Dz:=uQ (e:=⟨188,_,Dz⟩) rfl
theorem PN:uw E5 189=Gs:=uQ (e:=⟨189,_,Gs⟩) rfl
def PO:Ct:=⟨[.sc kB,.agg [kU,kU]],[.agg [kU,kU]]⟩
def abK:tL SV :=
 (.call 8 iV 3 2 (.call 14 jw 5 1 (.ite iJ (.call 50 dY 6 1 (.call 43 [ag,ak,(.bin .sub .i64 fM bg)] 7 2 (.leaf (.agg [(.int .u64 (.bin .or .u64 aA eH)),(.int .u64 (.bin .or .u64 aF eQ))])))) iR)))
theorem auH:uN (ctx E6) 3000 125 (uF PO.a (uC 0 (tO PO.a))) (tO PO.a).length=abK:=by kernel_rfl
def LB:List Int->List Int:=uq (uw E6) PO abK
theorem auI:uz prog gG ⟨125,PO,LB⟩:=vC (vD ahZ) 3000 auH (by kernel_rfl)
def E7:List uL:=⟨125,PO,LB⟩::E6
theorem VR:∀ e∈E7,uz prog gG e:=List.forall_mem_cons.2 ⟨auI,ahZ⟩
theorem auJ:uw E6 8=Dy:=uQ (e:=⟨8,_,Dy⟩) rfl
theorem auK:uw E6 14=BC:=uQ (e:=⟨14,_,BC⟩) rfl
theorem auL:uw E6 50=Ew:=uQ (e:=⟨50,_,Ew⟩) rfl
theorem auM:uw E6 43=zU:=uQ (e:=⟨43,_,zU⟩) rfl
def PP:Ct:=⟨[.sc kB,.agg [kB,.bool],.agg [kU,kU],.agg [kU,kU]],[.agg [kU,kU,kB]]⟩
def ah4:tL SV :=
 (.ite dK jq (.ite jr jq (.call 76 jw 7 5 (.call 76 kv 12 5 (.call 142 kz 17 1 (.call 14 jw 18 1 (.ite (.var .bool 18) (.call 124 dY 19 2 (.call 125 jw 21 2 (.ite kC kF (.call 126 jw 23 1 (.ite (.var .bool 23) kF (.call 126 kv 24 1 (.ite kG kF kH))))))) (.call 14 kv 19 1 (.ite j6 (.call 124 dY 20 2 (.call 125 kv 22 2 (.ite kC kJ (.call 126 jw 24 1 (.ite kG kJ (.call 126 kv 25 1 (.ite kK kJ kg))))))) (.ite (.not kC) (.ite (.bin .geq .i64 (.ite kL ag (.ite kM ak dU)) ag) (.call 78 [dI,kN] 20 2 kP) (.call 144 kz 20 5 (.call 134 [dI,dQ,dP,kN,(.var kI 20),fC,fG,fI,fK] 25 3 (.leaf (.agg [(.int .u64 jQ),kQ,(.int .u8 (.var kB 27))]))))) (.call 124 dY 20 2 (.leaf (.agg [ik,fF,jg])))))))))))))
theorem auN:uN (ctx E7) 3000 92 (uF PP.a (uC 0 (tO PP.a))) (tO PP.a).length=ah4:=by kernel_rfl
def ah5:List Int->List Int:=uq (uw E7) PP ah4
theorem auO:uz prog gG ⟨92,PP,ah5⟩:=vC (vD VR) 3000 auN (by kernel_rfl)
def PQ:Ct:=⟨[.sc kB,.sc kB,.agg [kU,kU]],[.agg [kU,kU,kB],.sc .bool]⟩
def ah6:tL SV :=
 (.ite kR kS (.call 14 kT 4 1 (.ite (.not jC) kS (.call 17 kT 5 4 (.call 50 dY 9 1 (.call 43 [eH,eQ,(.bin .sub .i64 (.lit 129) jl)] 10 2 (.call 50 [dQ] 12 1 (.call 41 [eU,eX,(.bin .sub .i64 (.lit 129) kV)] 13 2 (.call 49 [dQ] 15 1 (.call 233 [dQ,eY,fB] 16 2 (.call 18 [dQ,iJ,(.bin .add .i64 (.bin .mul .i64 bg jE) ak),fe,fq] 18 2 (.call 125 [dQ,fu,fw] 20 2 (.call 126 kT 22 1 (.ite (.var .bool 22) (.leaf (.tup [(.agg [ik,fF,jg]),gH])) (.leaf (.tup [(.agg [ik,fF,iE]),gH]))))))))))))))))
theorem auP:uN (ctx E7) 3000 165 (uF PQ.a (uC 0 (tO PQ.a))) (tO PQ.a).length=ah6:=by kernel_rfl
def ah7:List Int->List Int:=uq (uw E7) PQ ah6
theorem auQ:uz prog gG ⟨165,PQ,ah7⟩:=vC (vD VR) 3000 auP (by kernel_rfl)
def E8:List uL:=⟨92,PP,ah5⟩::⟨165,PQ,ah7⟩::E7
theorem ah8:∀ e∈E8,uz prog gG e:=List.forall_mem_cons.2 ⟨auO,List.forall_mem_cons.2 ⟨auQ,VR⟩⟩
def PR:Ct:=⟨[.sc kB,.sc kB,.agg [kB,.bool],.agg [kU,kU]],[.agg [kU,kU,kB]]⟩
def ah9:tL SV :=
 (.ite (.not (.ite dK ag (.ite kR ag ak))) jq (.ite kY jq (.call 165 [dI,dQ,aF,eD] 6 4 (.ite iC (.leaf (.agg [aD,fO,(.int .u8 kw)])) (.call 76 kZ 10 5 (.ite lg (.call 78 [dQ,gJ] 15 2 lh) (.call 147 [eY,fB,ag,ag] 15 4 (.call 134 [dQ,kX,je,gJ,kV,fA,fe,fq,fu] 19 3 (.leaf (.agg [ib,ik,(.int .u8 (.var kB 21))]))))))))))
theorem auR:uN (ctx E8) 3000 106 (uF PR.a (uC 0 (tO PR.a))) (tO PR.a).length=ah9:=by kernel_rfl
def aia:List Int->List Int:=uq (uw E8) PR ah9
theorem auS:uz prog gG ⟨106,PR,aia⟩:=vC (vD ah8) 3000 auR (by kernel_rfl)
def E9:List uL:=⟨106,PR,aia⟩::E8
theorem auT:∀ e∈E9,uz prog gG e:=List.forall_mem_cons.2 ⟨auS,ah8⟩
def E10:List uL:=E9
theorem auU:∀ e∈E10,uz prog gG e:=auT
def CS:List uL:=E10
theorem Sd:∀ e∈CS,uz prog gG e:=auU
theorem abL:zx (uI E7 M0 S0) eE:=EX VR Hy ae1 (by kernel_rfl)
def Sg:yR:=⟨1000077,[.sc kB,.sc .bool],1,25,[kU,kU],[.agg [kU,kU,kB],.sc .bool]⟩
def aic:tL SV :=
 (.call 14 kT 4 1 (.ite jC (.ite dK kS (.call 124 dY 5 2 (.call 125 kT 7 2 (.ite dO ll (.call 126 kT 9 1 (.ite iC ll (.leaf (.tup [(.agg [fO,fQ,iE]),gH])))))))) (.ite dK kS (.ite (.not dO) kS (.call 124 dY 5 2 (.leaf (.tup [(.agg [eF,aD,jg]),gH])))))))
theorem auV:Ny (uI E7 M0 S0) 3000 77 Sg=aic:=by kernel_rfl
def aid:List Int->List Int:=uq (uy E7 M0 S0) ⟨Sg.a,Sg.r⟩ aic
theorem auW:F8 prog gG ⟨77,Sg,aid⟩:=Zp abL 3000 auV (by kernel_rfl)
def Si:yR:=⟨2000077,[.sc kB,.sc .bool],2,25,[kU,kU,kU,kU],[.agg [kU,kU,kB],.sc .bool]⟩
def abM:tL SV :=
 (.call 14 kT 6 1 (.ite iX (.ite dK kS (.call 124 dY 7 2 (.call 125 kT 9 2 (.ite dO lq (.call 126 kT 11 1 (.ite lu lq (.call 126 kZ 12 1 (.ite ky lq (.leaf (.tup [(.agg [gF,iM,iE]),gH])))))))))) (.call 14 kZ 7 1 (.ite gD (.ite dK kS (.call 124 dY 8 2 (.call 125 kZ 10 2 (.ite dO lv (.call 126 kT 12 1 (.ite ky lv (.call 126 kZ 13 1 (.ite lw lv (.leaf (.tup [(.agg [iM,fV,iE]),gH])))))))))) (.ite dK kS (.ite (.not dO) kS (.call 124 dY 8 2 (.leaf (.tup [(.agg [fQ,gF,jg]),gH])))))))))
theorem auX:Ny (uI E7 M0 S0) 3000 77 Si=abM:=by kernel_rfl
def FB:List Int->List Int:=uq (uy E7 M0 S0) ⟨Si.a,Si.r⟩ abM
theorem auY:F8 prog gG ⟨77,Si,FB⟩:=Zp abL 3000 auX (by kernel_rfl)
def Sj:yR:=⟨3000077,[.sc kB,.sc .bool],3,25,[kU,kU,kU,kU,kU,kU],[.agg [kU,kU,kB],.sc .bool]⟩
def aie:tL SV :=
 (.call 14 kT 8 1 (.ite lC (.ite dK kS (.call 124 dY 9 2 (.call 125 kT 11 2 (.ite dO lF (.call 126 kT 13 1 (.ite lw lF (.call 126 kZ 14 1 (.ite jb lF (.call 126 lG 15 1 (.ite lI lF (.leaf (.tup [(.agg [fV,fZ,iE]),gH])))))))))))) (.call 14 kZ 9 1 (.ite iC (.ite dK kS (.call 124 dY 10 2 (.call 125 kZ 12 2 (.ite dO lJ (.call 126 kT 14 1 (.ite jb lJ (.call 126 kZ 15 1 (.ite lI lJ (.call 126 lG 16 1 (.ite lL lJ (.leaf (.tup [(.agg [fZ,iN,iE]),gH])))))))))))) (.call 14 lG 10 1 (.ite gJ (.ite dK kS (.call 124 dY 11 2 (.call 125 lG 13 2 (.ite dO lN (.call 126 kT 15 1 (.ite lI lN (.call 126 kZ 16 1 (.ite lL lN (.call 126 lG 17 1 (.ite kC lN (.leaf (.tup [(.agg [iN,il,iE]),gH])))))))))))) (.ite dK kS (.ite (.not dO) kS (.call 124 dY 11 2 lF)))))))))
theorem auZ:Ny (uI E7 M0 S0) 3000 77 Sj=aie:=by kernel_rfl
def aif:List Int->List Int:=uq (uy E7 M0 S0) ⟨Sj.a,Sj.r⟩ aie
theorem au0:F8 prog gG ⟨77,Sj,aif⟩:=Zp abL 3000 auZ (by kernel_rfl)
def S1:List wY:=⟨77,Sg,aid⟩::⟨77,Si,FB⟩::⟨77,Sj,aif⟩::S0
theorem Gu:∀ e∈S1,F8 prog gG e:=List.forall_mem_cons.2 ⟨auW,List.forall_mem_cons.2 ⟨auY,List.forall_mem_cons.2 ⟨au0,ae1⟩⟩⟩
theorem aig:uy E7 M0 S0 14=BC:=vo (e:=⟨14,_,BC⟩) rfl rfl rfl
theorem abN:uy E7 M0 S0 124=Lv:=vo (e:=⟨124,_,Lv⟩) rfl rfl rfl
theorem aih:uy E7 M0 S0 125=LB:=vo (e:=⟨125,_,LB⟩) rfl rfl rfl
theorem VS:uy E7 M0 S0 126=JR:=vo (e:=⟨126,_,JR⟩) rfl rfl rfl
end Go.Proofs.YtippohicjhilnaaGreatDoor
