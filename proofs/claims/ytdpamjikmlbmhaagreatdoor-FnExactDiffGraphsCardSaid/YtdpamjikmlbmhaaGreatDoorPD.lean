/- A part of the proof: texts PfA, PoF, PoG, PoH, PoI, PoJ, PoK, PoL, joined. Conditions: none. -/
import Derived.Test.YtdpamjikmlbmhaaGreatDoorPC
namespace Go.PM
def qm(d s:Nat):COper:=⟨none,some d,.mv (.sl s)⟩
def qi(d:Nat)(n:Int):COper:=⟨none,some d,.mv (.k (.int .i64 n))⟩
def qc(d:Nat)(p:PV):COper:=⟨none,some d,.mv (.k p)⟩
def qb(d:Nat)(op:BinOp)(x y:Nat):COper:=⟨none,some d,.bin op (.sl x) (.sl y)⟩
def qk(d:Nat)(op:BinOp)(x:Nat)(n:Int):COper:=⟨none,some d,.bin op (.sl x) (.k (.int .i64 n))⟩
def ql(d sz:Nat)(ag:Bool)(a:Nat):COper:=⟨none,some d,.load sz ag (.sl a)⟩
def qf(d o x:Nat):COper:=⟨none,some d,.fad o (.sl x)⟩
def qo(d:Nat)(p:COp):COper:=⟨none,some d,p⟩
def qN:PV:= .list 0 [] .nil
def qr(ops:List COper)(c:CC):CC:= .seq (.reg ops []) c
def qd(s:Nat)(a b:CC):CC:= .cond (.sl s) a b
def qe(p:COp):COper:=⟨none,none,p⟩
def F10:CFn:={nt:=13,nk:=0,own:=true,res:=[.cell 2 2 true],body:=(
 qr [qo 1 (.box 2 (.sl 0)),qo 2 (.alloc [qN,qN])]
 (qr [qo 3 (.alloc [qN,qN])]
 (qr [qf 4 0 1,ql 5 1 false 4,qo 6 (.call 44 [.sl 5] []),qf 7 0 3,qe (.store 1 (.sl 7) (.sl 6))]
 (qr [qf 8 1 1,ql 9 1 false 8,qo 10 (.call 45 [.sl 9] []),qf 11 1 3,qe (.store 1 (.sl 11) (.sl 10))]
 (qr [ql 12 2 true 3,qe (.store 2 (.sl 2) (.sl 12))]
 .ret)))))}
def F44:CFn:={nt:=23,nk:=0,own:=true,res:=[.tmp 2],body:=(
 qr [qc 2 qN]
 (qr [qm 5 0,qo 6 (.len (.sl 5)),qo 7 (.mks 72 3 56 [(.int .i64 0),qN,qN] (.sl 6) (.sl 6)),qm 3 7]
 (.seq (qr [qi 4 0]
 (.block 0 (.loop (.seq (qr [qm 8 4,qm 9 0,qo 10 (.len (.sl 9)),qb 11 .lss 8 10]
 (qd 11 .skip (.exit 0)))
 (.seq (.block 1 (.reg [qm 14 3,qm 15 4,qm 16 0,qm 17 4,qo 18 (.iad 3 (.sl 16) (.sl 17)),ql 19 3 true 18,qo 20 (.call 86 [.sl 19] []),qo 21 (.iad 3 (.sl 14) (.sl 15)),qe (.store 3 (.sl 21) (.sl 20))] []))
 (.reg [qm 12 4,qk 13 .add 12 1,qm 4 13] []))))))
 (qr [qm 22 3,qm 2 22]
 .ret))))}
def F45:CFn:={nt:=23,nk:=0,own:=true,res:=[.tmp 2],body:=(
 qr [qc 2 qN]
 (qr [qm 5 0,qo 6 (.len (.sl 5)),qo 7 (.mks 68 5 64 [(.int .i64 0),(.str ⟨#[]⟩),(.int .i64 0),(.int .i64 0),qN] (.sl 6) (.sl 6)),qm 3 7]
 (.seq (qr [qi 4 0]
 (.block 0 (.loop (.seq (qr [qm 8 4,qm 9 0,qo 10 (.len (.sl 9)),qb 11 .lss 8 10]
 (qd 11 .skip (.exit 0)))
 (.seq (.block 1 (.reg [qm 14 3,qm 15 4,qm 16 0,qm 17 4,qo 18 (.iad 5 (.sl 16) (.sl 17)),ql 19 5 true 18,qo 20 (.call 87 [.sl 19] []),qo 21 (.iad 5 (.sl 14) (.sl 15)),qe (.store 5 (.sl 21) (.sl 20))] []))
 (.reg [qm 12 4,qk 13 .add 12 1,qm 4 13] []))))))
 (qr [qm 22 3,qm 2 22]
 .ret))))}
def F86:CFn:={nt:=16,nk:=0,own:=true,res:=[.cell 2 3 true],body:=(
 qr [qo 1 (.box 3 (.sl 0)),qo 2 (.alloc [(.int .i64 0),qN,qN])]
 (qr [qo 3 (.alloc [(.int .i64 0),qN,qN])]
 (qr [qf 4 0 1,ql 5 1 false 4,qf 6 0 3,qe (.store 1 (.sl 6) (.sl 5))]
 (qr [qf 7 1 1,ql 8 1 false 7,qo 9 (.call 122 [.sl 8] []),qf 10 1 3,qe (.store 1 (.sl 10) (.sl 9))]
 (qr [qf 11 2 1,ql 12 1 false 11,qo 13 (.call 123 [.sl 12] []),qf 14 2 3,qe (.store 1 (.sl 14) (.sl 13))]
 (qr [ql 15 3 true 3,qe (.store 3 (.sl 2) (.sl 15))]
 .ret))))))}
def F87:CFn:={nt:=21,nk:=0,own:=true,res:=[.cell 2 5 true],body:=(
 qr [qo 1 (.box 5 (.sl 0)),qo 2 (.alloc [(.int .i64 0),(.str ⟨#[]⟩),(.int .i64 0),(.int .i64 0),qN])]
 (qr [qo 3 (.alloc [(.int .i64 0),(.str ⟨#[]⟩),(.int .i64 0),(.int .i64 0),qN])]
 (qr [qf 4 0 1,ql 5 1 false 4,qf 6 0 3,qe (.store 1 (.sl 6) (.sl 5))]
 (qr [qf 7 1 1,ql 8 1 false 7,qf 9 1 3,qe (.store 1 (.sl 9) (.sl 8))]
 (qr [qf 10 2 1,ql 11 1 false 10,qf 12 2 3,qe (.store 1 (.sl 12) (.sl 11))]
 (qr [qf 13 3 1,ql 14 1 false 13,qf 15 3 3,qe (.store 1 (.sl 15) (.sl 14))]
 (qr [qf 16 4 1,ql 17 1 false 16,qo 18 (.call 123 [.sl 17] []),qf 19 4 3,qe (.store 1 (.sl 19) (.sl 18))]
 (qr [ql 20 5 true 3,qe (.store 5 (.sl 2) (.sl 20))]
 .ret))))))))}
def F122:CFn:={nt:=22,nk:=0,own:=true,res:=[.tmp 2],body:=(
 qr [qc 2 qN]
 (qr [qm 5 0,qo 6 (.len (.sl 5)),qo 7 (.mks 9 1 16 [(.str ⟨#[]⟩)] (.sl 6) (.sl 6)),qm 3 7]
 (.seq (qr [qi 4 0]
 (.block 0 (.loop (.seq (qr [qm 8 4,qm 9 0,qo 10 (.len (.sl 9)),qb 11 .lss 8 10]
 (qd 11 .skip (.exit 0)))
 (.seq (.block 1 (.reg [qm 14 3,qm 15 4,qm 16 0,qm 17 4,qo 18 (.iad 1 (.sl 16) (.sl 17)),ql 19 1 false 18,qo 20 (.iad 1 (.sl 14) (.sl 15)),qe (.store 1 (.sl 20) (.sl 19))] []))
 (.reg [qm 12 4,qk 13 .add 12 1,qm 4 13] []))))))
 (qr [qm 21 3,qm 2 21]
 .ret))))}
def F123:CFn:={nt:=23,nk:=0,own:=true,res:=[.tmp 2],body:=(
 qr [qc 2 qN]
 (qr [qm 5 0,qo 6 (.len (.sl 5)),qo 7 (.mks 133 2 32 [(.str ⟨#[]⟩),(.str ⟨#[]⟩)] (.sl 6) (.sl 6)),qm 3 7]
 (.seq (qr [qi 4 0]
 (.block 0 (.loop (.seq (qr [qm 8 4,qm 9 0,qo 10 (.len (.sl 9)),qb 11 .lss 8 10]
 (qd 11 .skip (.exit 0)))
 (.seq (.block 1 (.reg [qm 14 3,qm 15 4,qm 16 0,qm 17 4,qo 18 (.iad 2 (.sl 16) (.sl 17)),ql 19 2 true 18,qo 20 (.call 170 [.sl 19] []),qo 21 (.iad 2 (.sl 14) (.sl 15)),qe (.store 2 (.sl 21) (.sl 20))] []))
 (.reg [qm 12 4,qk 13 .add 12 1,qm 4 13] []))))))
 (qr [qm 22 3,qm 2 22]
 .ret))))}
def F170:CFn:={nt:=11,nk:=0,own:=true,res:=[.cell 2 2 true],body:=(
 qr [qo 1 (.box 2 (.sl 0)),qo 2 (.alloc [(.str ⟨#[]⟩),(.str ⟨#[]⟩)])]
 (qr [qo 3 (.alloc [(.str ⟨#[]⟩),(.str ⟨#[]⟩)])]
 (qr [qf 4 0 1,ql 5 1 false 4,qf 6 0 3,qe (.store 1 (.sl 6) (.sl 5))]
 (qr [qf 7 1 1,ql 8 1 false 7,qf 9 1 3,qe (.store 1 (.sl 9) (.sl 8))]
 (qr [ql 10 2 true 3,qe (.store 2 (.sl 2) (.sl 10))]
 .ret)))))}
def F66:CFn:={nt:=12,nk:=0,own:=true,res:=[.cell 2 3 true],body:=(
 qr [qo 1 (.box 3 (.sl 0)),qo 2 (.alloc [(.int .i64 0),qN,qN])]
 (qr [qf 3 1 1,ql 4 1 false 3,qo 5 (.call 103 [.sl 4] []),qf 6 1 1,qe (.store 1 (.sl 6) (.sl 5))]
 (qr [qf 7 2 1,ql 8 1 false 7,qo 9 (.call 108 [.sl 8] []),qf 10 2 1,qe (.store 1 (.sl 10) (.sl 9))]
 (qr [ql 11 3 true 1,qe (.store 3 (.sl 2) (.sl 11))]
 .ret))))}
def F68:CFn:={nt:=8,nk:=0,own:=true,res:=[.cell 2 5 true],body:=(
 qr [qo 1 (.box 5 (.sl 0)),qo 2 (.alloc [(.int .i64 0),(.str ⟨#[]⟩),(.int .i64 0),(.int .i64 0),qN])]
 (qr [qf 3 4 1,ql 4 1 false 3,qo 5 (.call 108 [.sl 4] []),qf 6 4 1,qe (.store 1 (.sl 6) (.sl 5))]
 (qr [ql 7 5 true 1,qe (.store 5 (.sl 2) (.sl 7))]
 .ret)))}
def F103:CFn:={nt:=11,nk:=0,own:=true,res:=[.tmp 2],body:=(
 qr [qc 2 qN]
 (.seq (qr [qm 3 0,qo 4 (.len (.sl 3)),qk 5 .eql 4 0]
 (qd 5 (qr [qc 2 qN]
 .ret) .skip))
 (qr [qm 6 0,qo 7 (.len (.sl 6)),qo 8 (.mk0 9 1 16 (.k (.int .i64 0)) (.sl 7)),qm 9 0,qo 10 (.app 9 1 16 (.sl 8) (.sl 9)),qm 2 10]
 .ret)))}
def F108:CFn:={nt:=11,nk:=0,own:=true,res:=[.tmp 2],body:=(
 qr [qc 2 qN]
 (.seq (qr [qm 3 0,qo 4 (.len (.sl 3)),qk 5 .eql 4 0]
 (qd 5 (qr [qc 2 qN]
 .ret) .skip))
 (qr [qm 6 0,qo 7 (.len (.sl 6)),qo 8 (.mk0 133 2 32 (.k (.int .i64 0)) (.sl 7)),qm 9 0,qo 10 (.app 133 2 32 (.sl 8) (.sl 9)),qm 2 10]
 .ret)))}
def F8:CFn:={nt:=18,nk:=0,own:=false,res:=[.tmp 4],body:=(
 qr [qo 2 (.box 2 (.sl 0)),qi 4 0]
 (qr [qf 5 0 2,ql 6 1 false 5,qm 7 1,qo 8 (.call 38 [(.sl 6),(.sl 7)] []),qm 1 8]
 (.seq (qr [qm 9 1,qk 10 .lss 9 0]
 (qd 10 (qr [qi 4 (-1)]
 .ret) .skip))
 (qr [qf 11 1 2,ql 12 1 false 11,qm 13 1,qo 14 (.call 39 [(.sl 12),(.sl 13)] []),qm 1 14]
 (.seq (qr [qm 15 1,qk 16 .lss 15 0]
 (qd 16 (qr [qi 4 (-1)]
 .ret) .skip))
 (qr [qm 17 1,qm 4 17]
 .ret))))))}
def F13:CFn:={nt:=17,nk:=0,own:=false,res:=[.tmp 4],body:=(
 qr [qo 2 (.box 2 (.sl 0)),qo 3 (.box 2 (.sl 1)),qc 4 (.bool false)]
 (.seq (qr [qf 5 0 2,ql 6 1 false 5,qf 7 0 3,ql 8 1 false 7,qo 9 (.call 48 [(.sl 6),(.sl 8)] []),qo 10 (.un .not (.sl 9))]
 (qd 10 (qr [qc 4 (.bool false)]
 .ret) .skip))
 (.seq (qr [qf 11 1 2,ql 12 1 false 11,qf 13 1 3,ql 14 1 false 13,qo 15 (.call 49 [(.sl 12),(.sl 14)] []),qo 16 (.un .not (.sl 15))]
 (qd 16 (qr [qc 4 (.bool false)]
 .ret) .skip))
 (qr [qc 4 (.bool true)]
 .ret))))}
def F38:CFn:={nt:=27,nk:=0,own:=false,res:=[.tmp 4],body:=(
 qr [qi 4 0]
 (qr [qm 6 1,qm 7 0,qo 8 (.len (.sl 7)),qb 9 .sub 6 8,qm 1 9]
 (.seq (qr [qm 10 1,qk 11 .lss 10 0]
 (qd 11 (qr [qi 4 (-1)]
 .ret) .skip))
 (.seq (qr [qi 5 0]
 (.block 0 (.loop (.seq (qr [qm 12 5,qm 13 0,qo 14 (.len (.sl 13)),qb 15 .lss 12 14]
 (qd 15 .skip (.exit 0)))
 (.seq (.block 1 (qr [qm 18 0,qm 19 5,qo 20 (.iad 3 (.sl 18) (.sl 19)),ql 21 3 true 20,qm 22 1,qo 23 (.call 79 [(.sl 21),(.sl 22)] []),qm 1 23]
 (qr [qm 24 1,qk 25 .lss 24 0]
 (qd 25 (qr [qi 4 (-1)]
 .ret) .skip))))
 (.reg [qm 16 5,qk 17 .add 16 1,qm 5 17] []))))))
 (qr [qm 26 1,qm 4 26]
 .ret)))))}
def F39:CFn:={nt:=27,nk:=0,own:=false,res:=[.tmp 4],body:=(
 qr [qi 4 0]
 (qr [qm 6 1,qm 7 0,qo 8 (.len (.sl 7)),qb 9 .sub 6 8,qm 1 9]
 (.seq (qr [qm 10 1,qk 11 .lss 10 0]
 (qd 11 (qr [qi 4 (-1)]
 .ret) .skip))
 (.seq (qr [qi 5 0]
 (.block 0 (.loop (.seq (qr [qm 12 5,qm 13 0,qo 14 (.len (.sl 13)),qb 15 .lss 12 14]
 (qd 15 .skip (.exit 0)))
 (.seq (.block 1 (qr [qm 18 0,qm 19 5,qo 20 (.iad 5 (.sl 18) (.sl 19)),ql 21 5 true 20,qm 22 1,qo 23 (.call 80 [(.sl 21),(.sl 22)] []),qm 1 23]
 (qr [qm 24 1,qk 25 .lss 24 0]
 (qd 25 (qr [qi 4 (-1)]
 .ret) .skip))))
 (.reg [qm 16 5,qk 17 .add 16 1,qm 5 17] []))))))
 (qr [qm 26 1,qm 4 26]
 .ret)))))}
def F48:CFn:={nt:=27,nk:=0,own:=false,res:=[.tmp 4],body:=(
 qr [qc 4 (.bool false)]
 (.seq (qr [qm 6 0,qo 7 (.len (.sl 6)),qm 8 1,qo 9 (.len (.sl 8)),qb 10 .neq 7 9]
 (qd 10 (qr [qc 4 (.bool false)]
 .ret) .skip))
 (.seq (qr [qi 5 0]
 (.block 0 (.loop (.seq (qr [qm 11 5,qm 12 0,qo 13 (.len (.sl 12)),qb 14 .lss 11 13]
 (qd 14 .skip (.exit 0)))
 (.seq (.block 1 (qr [qm 17 0,qm 18 5,qo 19 (.iad 3 (.sl 17) (.sl 18)),ql 20 3 true 19,qm 21 1,qm 22 5,qo 23 (.iad 3 (.sl 21) (.sl 22)),ql 24 3 true 23,qo 25 (.call 93 [(.sl 20),(.sl 24)] []),qo 26 (.un .not (.sl 25))]
 (qd 26 (qr [qc 4 (.bool false)]
 .ret) .skip)))
 (.reg [qm 15 5,qk 16 .add 15 1,qm 5 16] []))))))
 (qr [qc 4 (.bool true)]
 .ret))))}
def F49:CFn:={nt:=27,nk:=0,own:=false,res:=[.tmp 4],body:=(
 qr [qc 4 (.bool false)]
 (.seq (qr [qm 6 0,qo 7 (.len (.sl 6)),qm 8 1,qo 9 (.len (.sl 8)),qb 10 .neq 7 9]
 (qd 10 (qr [qc 4 (.bool false)]
 .ret) .skip))
 (.seq (qr [qi 5 0]
 (.block 0 (.loop (.seq (qr [qm 11 5,qm 12 0,qo 13 (.len (.sl 12)),qb 14 .lss 11 13]
 (qd 14 .skip (.exit 0)))
 (.seq (.block 1 (qr [qm 17 0,qm 18 5,qo 19 (.iad 5 (.sl 17) (.sl 18)),ql 20 5 true 19,qm 21 1,qm 22 5,qo 23 (.iad 5 (.sl 21) (.sl 22)),ql 24 5 true 23,qo 25 (.call 94 [(.sl 20),(.sl 24)] []),qo 26 (.un .not (.sl 25))]
 (qd 26 (qr [qc 4 (.bool false)]
 .ret) .skip)))
 (.reg [qm 15 5,qk 16 .add 15 1,qm 5 16] []))))))
 (qr [qc 4 (.bool true)]
 .ret))))}
def F59:CFn:={nt:=20,nk:=0,own:=false,res:=[.tmp 2],body:=(
 qr [qc 2 (.str ⟨#[]⟩)]
 (.seq (qr [qm 4 0,qk 5 .leq 4 0]
 (qd 5 (qr [qc 2 (.str ⟨#[109,48]⟩)]
 .ret) .skip))
 (qr [qc 3 (.str ⟨#[]⟩)]
 (.seq (.block 0 (.loop (.seq (qr [qm 6 0,qk 7 .gtr 6 0]
 (qd 7 .skip (.exit 0)))
 (.block 1 (qr [qm 8 0,qk 9 .rem 8 10,qo 10 (.bin .add (.k (.int .i64 48)) (.sl 9)),qo 11 (.toInt .u8 (.sl 10)),qo 12 (.bsl 5 1 [(.int .u8 0)] 1 [(0,1,(.sl 11))]),qo 13 (.b2s (.sl 12)),qm 14 3,qb 15 .add 13 14,qm 3 15]
 (.reg [qm 16 0,qk 17 .quo 16 10,qm 0 17] []))))))
 (qr [qm 18 3,qo 19 (.bin .add (.k (.str ⟨#[109]⟩)) (.sl 18)),qm 2 19]
 .ret)))))}
def F60:CFn:={nt:=22,nk:=0,own:=false,res:=[.tmp 4],body:=(
 qr [qi 4 0]
 (.seq (qr [qi 5 0]
 (.block 0 (.loop (.seq (qr [qm 6 5,qm 7 0,qo 8 (.len (.sl 7)),qb 9 .lss 6 8]
 (qd 9 .skip (.exit 0)))
 (.seq (.block 1 (.seq (.seq (.reg [qm 12 0,qm 13 5,qo 14 (.iad 1 (.sl 12) (.sl 13)),ql 15 1 false 14,qm 16 1,qo 17 (.call 59 [.sl 16] []),qb 18 .neq 15 17] [(3,5)])
 (qd 18 (qr [qi 4 (-1)]
 .ret) .skip))
 (.reg [qm 19 1,qk 20 .add 19 1,qm 1 20] [])))
 (.reg [qm 10 5,qk 11 .add 10 1,qm 5 11] []))))))
 (qr [qm 21 1,qm 4 21]
 .ret)))}
def F61:CFn:={nt:=33,nk:=0,own:=false,res:=[.tmp 4],body:=(
 qr [qi 4 0]
 (.seq (qr [qi 5 0]
 (.block 0 (.loop (.seq (qr [qm 6 5,qm 7 0,qo 8 (.len (.sl 7)),qb 9 .lss 6 8]
 (qd 9 .skip (.exit 0)))
 (.seq (.block 1 (.seq (.seq (.reg [qm 12 0,qm 13 5,qo 14 (.iad 2 (.sl 12) (.sl 13)),qf 15 0 14,ql 16 1 false 15,qm 17 1,qo 18 (.call 59 [.sl 17] []),qb 19 .neq 16 18] [(4,6)])
 (qd 19 (qr [qi 4 (-1)]
 .ret) .skip))
 (qr [qm 20 1,qk 21 .add 20 1,qm 1 21]
 (.seq (.seq (.reg [qm 22 0,qm 23 5,qo 24 (.iad 2 (.sl 22) (.sl 23)),qf 25 1 24,ql 26 1 false 25,qm 27 1,qo 28 (.call 59 [.sl 27] []),qb 29 .neq 26 28] [(4,6)])
 (qd 29 (qr [qi 4 (-1)]
 .ret) .skip))
 (.reg [qm 30 1,qk 31 .add 30 1,qm 1 31] [])))))
 (.reg [qm 10 5,qk 11 .add 10 1,qm 5 11] []))))))
 (qr [qm 32 1,qm 4 32]
 .ret)))}
def F79:CFn:={nt:=18,nk:=0,own:=false,res:=[.tmp 4],body:=(
 qr [qo 2 (.box 3 (.sl 0)),qi 4 0]
 (qr [qf 5 1 2,ql 6 1 false 5,qm 7 1,qo 8 (.call 116 [(.sl 6),(.sl 7)] []),qm 1 8]
 (.seq (qr [qm 9 1,qk 10 .lss 9 0]
 (qd 10 (qr [qi 4 (-1)]
 .ret) .skip))
 (qr [qf 11 2 2,ql 12 1 false 11,qm 13 1,qo 14 (.call 117 [(.sl 12),(.sl 13)] []),qm 1 14]
 (.seq (qr [qm 15 1,qk 16 .lss 15 0]
 (qd 16 (qr [qi 4 (-1)]
 .ret) .skip))
 (qr [qm 17 1,qm 4 17]
 .ret))))))}
def F80:CFn:={nt:=19,nk:=0,own:=false,res:=[.tmp 4],body:=(
 qr [qo 2 (.box 5 (.sl 0)),qi 4 0]
 (qr [qm 5 1,qf 6 1 2,ql 7 1 false 6,qo 8 (.slen (.sl 7)),qb 9 .sub 5 8,qm 1 9]
 (.seq (qr [qm 10 1,qk 11 .lss 10 0]
 (qd 11 (qr [qi 4 (-1)]
 .ret) .skip))
 (qr [qf 12 4 2,ql 13 1 false 12,qm 14 1,qo 15 (.call 117 [(.sl 13),(.sl 14)] []),qm 1 15]
 (.seq (qr [qm 16 1,qk 17 .lss 16 0]
 (qd 17 (qr [qi 4 (-1)]
 .ret) .skip))
 (qr [qm 18 1,qm 4 18]
 .ret))))))}
def F93:CFn:={nt:=22,nk:=0,own:=false,res:=[.tmp 4],body:=(
 qr [qo 2 (.box 3 (.sl 0)),qo 3 (.box 3 (.sl 1)),qc 4 (.bool false)]
 (.seq (qr [qf 5 0 2,ql 6 1 false 5,qf 7 0 3,ql 8 1 false 7,qb 9 .neq 6 8]
 (qd 9 (qr [qc 4 (.bool false)]
 .ret) .skip))
 (.seq (qr [qf 10 1 2,ql 11 1 false 10,qf 12 1 3,ql 13 1 false 12,qo 14 (.call 129 [(.sl 11),(.sl 13)] []),qo 15 (.un .not (.sl 14))]
 (qd 15 (qr [qc 4 (.bool false)]
 .ret) .skip))
 (.seq (qr [qf 16 2 2,ql 17 1 false 16,qf 18 2 3,ql 19 1 false 18,qo 20 (.call 130 [(.sl 17),(.sl 19)] []),qo 21 (.un .not (.sl 20))]
 (qd 21 (qr [qc 4 (.bool false)]
 .ret) .skip))
 (qr [qc 4 (.bool true)]
 .ret)))))}
def F94:CFn:={nt:=31,nk:=0,own:=false,res:=[.tmp 4],body:=(
 qr [qo 2 (.box 5 (.sl 0)),qo 3 (.box 5 (.sl 1)),qc 4 (.bool false)]
 (.seq (qr [qf 5 0 2,ql 6 1 false 5,qf 7 0 3,ql 8 1 false 7,qb 9 .neq 6 8]
 (qd 9 (qr [qc 4 (.bool false)]
 .ret) .skip))
 (.seq (qr [qf 10 1 2,ql 11 1 false 10,qf 12 1 3,ql 13 1 false 12,qb 14 .neq 11 13]
 (qd 14 (qr [qc 4 (.bool false)]
 .ret) .skip))
 (.seq (qr [qf 15 2 2,ql 16 1 false 15,qf 17 2 3,ql 18 1 false 17,qb 19 .neq 16 18]
 (qd 19 (qr [qc 4 (.bool false)]
 .ret) .skip))
 (.seq (qr [qf 20 3 2,ql 21 1 false 20,qf 22 3 3,ql 23 1 false 22,qb 24 .neq 21 23]
 (qd 24 (qr [qc 4 (.bool false)]
 .ret) .skip))
 (.seq (qr [qf 25 4 2,ql 26 1 false 25,qf 27 4 3,ql 28 1 false 27,qo 29 (.call 130 [(.sl 26),(.sl 28)] []),qo 30 (.un .not (.sl 29))]
 (qd 30 (qr [qc 4 (.bool false)]
 .ret) .skip))
 (qr [qc 4 (.bool true)]
 .ret)))))))}
def F116:CFn:={nt:=28,nk:=0,own:=false,res:=[.tmp 4],body:=(
 qr [qi 4 0]
 (qr [qm 6 1,qm 7 0,qo 8 (.len (.sl 7)),qb 9 .sub 6 8,qm 1 9]
 (.seq (qr [qm 10 1,qk 11 .lss 10 0]
 (qd 11 (qr [qi 4 (-1)]
 .ret) .skip))
 (.seq (qr [qi 5 0]
 (.block 0 (.loop (.seq (qr [qm 12 5,qm 13 0,qo 14 (.len (.sl 13)),qb 15 .lss 12 14]
 (qd 15 .skip (.exit 0)))
 (.seq (.block 1 (qr [qm 18 1,qm 19 0,qm 20 5,qo 21 (.iad 1 (.sl 19) (.sl 20)),ql 22 1 false 21,qo 23 (.slen (.sl 22)),qb 24 .sub 18 23,qm 1 24]
 (qr [qm 25 1,qk 26 .lss 25 0]
 (qd 26 (qr [qi 4 (-1)]
 .ret) .skip))))
 (.reg [qm 16 5,qk 17 .add 16 1,qm 5 17] []))))))
 (qr [qm 27 1,qm 4 27]
 .ret)))))}
def F117:CFn:={nt:=27,nk:=0,own:=false,res:=[.tmp 4],body:=(
 qr [qi 4 0]
 (qr [qm 6 1,qm 7 0,qo 8 (.len (.sl 7)),qb 9 .sub 6 8,qm 1 9]
 (.seq (qr [qm 10 1,qk 11 .lss 10 0]
 (qd 11 (qr [qi 4 (-1)]
 .ret) .skip))
 (.seq (qr [qi 5 0]
 (.block 0 (.loop (.seq (qr [qm 12 5,qm 13 0,qo 14 (.len (.sl 13)),qb 15 .lss 12 14]
 (qd 15 .skip (.exit 0)))
 (.seq (.block 1 (qr [qm 18 0,qm 19 5,qo 20 (.iad 2 (.sl 18) (.sl 19)),ql 21 2 true 20,qm 22 1,qo 23 (.call 165 [(.sl 21),(.sl 22)] []),qm 1 23]
 (qr [qm 24 1,qk 25 .lss 24 0]
 (qd 25 (qr [qi 4 (-1)]
 .ret) .skip))))
 (.reg [qm 16 5,qk 17 .add 16 1,qm 5 17] []))))))
 (qr [qm 26 1,qm 4 26]
 .ret)))))}
def F129:CFn:={nt:=26,nk:=0,own:=false,res:=[.tmp 4],body:=(
 qr [qc 4 (.bool false)]
 (.seq (qr [qm 6 0,qo 7 (.len (.sl 6)),qm 8 1,qo 9 (.len (.sl 8)),qb 10 .neq 7 9]
 (qd 10 (qr [qc 4 (.bool false)]
 .ret) .skip))
 (.seq (qr [qi 5 0]
 (.block 0 (.loop (.seq (qr [qm 11 5,qm 12 0,qo 13 (.len (.sl 12)),qb 14 .lss 11 13]
 (qd 14 .skip (.exit 0)))
 (.seq (.block 1 (qr [qm 17 0,qm 18 5,qo 19 (.iad 1 (.sl 17) (.sl 18)),ql 20 1 false 19,qm 21 1,qm 22 5,qo 23 (.iad 1 (.sl 21) (.sl 22)),ql 24 1 false 23,qb 25 .neq 20 24]
 (qd 25 (qr [qc 4 (.bool false)]
 .ret) .skip)))
 (.reg [qm 15 5,qk 16 .add 15 1,qm 5 16] []))))))
 (qr [qc 4 (.bool true)]
 .ret))))}
def F130:CFn:={nt:=27,nk:=0,own:=false,res:=[.tmp 4],body:=(
 qr [qc 4 (.bool false)]
 (.seq (qr [qm 6 0,qo 7 (.len (.sl 6)),qm 8 1,qo 9 (.len (.sl 8)),qb 10 .neq 7 9]
 (qd 10 (qr [qc 4 (.bool false)]
 .ret) .skip))
 (.seq (qr [qi 5 0]
 (.block 0 (.loop (.seq (qr [qm 11 5,qm 12 0,qo 13 (.len (.sl 12)),qb 14 .lss 11 13]
 (qd 14 .skip (.exit 0)))
 (.seq (.block 1 (qr [qm 17 0,qm 18 5,qo 19 (.iad 2 (.sl 17) (.sl 18)),ql 20 2 true 19,qm 21 1,qm 22 5,qo 23 (.iad 2 (.sl 21) (.sl 22)),ql 24 2 true 23,qo 25 (.call 176 [(.sl 20),(.sl 24)] []),qo 26 (.un .not (.sl 25))]
 (qd 26 (qr [qc 4 (.bool false)]
 .ret) .skip)))
 (.reg [qm 15 5,qk 16 .add 15 1,qm 5 16] []))))))
 (qr [qc 4 (.bool true)]
 .ret))))}
def F165:CFn:={nt:=20,nk:=0,own:=false,res:=[.tmp 4],body:=(
 qr [qo 2 (.box 2 (.sl 0)),qi 4 0]
 (qr [qm 5 1,qf 6 0 2,ql 7 1 false 6,qo 8 (.slen (.sl 7)),qb 9 .sub 5 8,qm 1 9]
 (.seq (qr [qm 10 1,qk 11 .lss 10 0]
 (qd 11 (qr [qi 4 (-1)]
 .ret) .skip))
 (qr [qm 12 1,qf 13 1 2,ql 14 1 false 13,qo 15 (.slen (.sl 14)),qb 16 .sub 12 15,qm 1 16]
 (.seq (qr [qm 17 1,qk 18 .lss 17 0]
 (qd 18 (qr [qi 4 (-1)]
 .ret) .skip))
 (qr [qm 19 1,qm 4 19]
 .ret))))))}
def F176:CFn:={nt:=15,nk:=0,own:=false,res:=[.tmp 4],body:=(
 qr [qo 2 (.box 2 (.sl 0)),qo 3 (.box 2 (.sl 1)),qc 4 (.bool false)]
 (.seq (qr [qf 5 0 2,ql 6 1 false 5,qf 7 0 3,ql 8 1 false 7,qb 9 .neq 6 8]
 (qd 9 (qr [qc 4 (.bool false)]
 .ret) .skip))
 (.seq (qr [qf 10 1 2,ql 11 1 false 10,qf 12 1 3,ql 13 1 false 12,qb 14 .neq 11 13]
 (qd 14 (qr [qc 4 (.bool false)]
 .ret) .skip))
 (qr [qc 4 (.bool true)]
 .ret))))}
def F40:CFn:={nt:=95,nk:=0,own:=false,res:=[.tmp 2],body:=(
 qr [qo 1 (.box 2 (.sl 0)),qi 2 0]
 (.seq (qr [qf 6 0 1,ql 7 1 false 6,qo 8 (.len (.sl 7)),qk 9 .gtr 8 200,qm 10 9,⟨(some (10,false)),(some 11),.fad 1 (.sl 1)⟩,⟨(some (10,false)),(some 12),.load 1 false (.sl 11)⟩,⟨(some (10,false)),(some 13),.len (.sl 12)⟩,⟨(some (10,false)),(some 14),.bin .gtr (.sl 13) (.k (.int .i64 400))⟩,qo 15 (.pick (.sl 10) (.k (.bool true)) (.sl 14))]
 (qd 15 (qr [qi 2 1]
 .ret) .skip))
 (.seq (qr [qi 3 0]
 (.block 0 (.loop (.seq (qr [qm 16 3,qf 17 0 1,ql 18 1 false 17,qo 19 (.len (.sl 18)),qb 20 .lss 16 19]
 (qd 20 .skip (.exit 0)))
 (.seq (.block 1 (qr [qf 23 0 1,ql 24 1 false 23,qm 25 3,qo 26 (.iad 3 (.sl 24) (.sl 25)),ql 27 3 true 26,qo 28 (.call 81 [.sl 27] []),qo 29 (.un .not (.sl 28)),qm 30 29,⟨(some (30,false)),(some 31),.mv (.sl 3)⟩,⟨(some (30,false)),(some 32),.bin .gtr (.sl 31) (.k (.int .i64 0))⟩,⟨(some (30,false)),(some 33),.mv (.sl 32)⟩,⟨(some (33,true)),(some 34),.fad 0 (.sl 1)⟩,⟨(some (33,true)),(some 35),.load 1 false (.sl 34)⟩,⟨(some (33,true)),(some 36),.mv (.sl 3)⟩,⟨(some (33,true)),(some 37),.bin .sub (.sl 36) (.k (.int .i64 1))⟩,⟨(some (33,true)),(some 38),.iad 3 (.sl 35) (.sl 37)⟩,⟨(some (33,true)),(some 39),.fad 0 (.sl 38)⟩,⟨(some (33,true)),(some 40),.load 1 false (.sl 39)⟩,⟨(some (33,true)),(some 41),.fad 0 (.sl 1)⟩,⟨(some (33,true)),(some 42),.load 1 false (.sl 41)⟩,⟨(some (33,true)),(some 43),.mv (.sl 3)⟩,⟨(some (33,true)),(some 44),.iad 3 (.sl 42) (.sl 43)⟩,⟨(some (33,true)),(some 45),.fad 0 (.sl 44)⟩,⟨(some (33,true)),(some 46),.load 1 false (.sl 45)⟩,⟨(some (33,true)),(some 47),.bin .geq (.sl 40) (.sl 46)⟩,⟨(some (30,false)),(some 48),.pick (.sl 33) (.sl 47) (.k (.bool false))⟩,qo 49 (.pick (.sl 30) (.k (.bool true)) (.sl 48))]
 (qd 49 (qr [qi 2 1]
 .ret) .skip)))
 (.reg [qm 21 3,qk 22 .add 21 1,qm 3 22] []))))))
 (.seq (qr [qi 4 0]
 (.block 2 (.loop (.seq (qr [qm 50 4,qf 51 1 1,ql 52 1 false 51,qo 53 (.len (.sl 52)),qb 54 .lss 50 53]
 (qd 54 .skip (.exit 2)))
 (.seq (.block 3 (qr [qf 57 1 1,ql 58 1 false 57,qm 59 4,qo 60 (.iad 5 (.sl 58) (.sl 59)),ql 61 5 true 60,qo 5 (.alloc [(.int .i64 0),(.str ⟨#[]⟩),(.int .i64 0),(.int .i64 0),qN]),qe (.store 5 (.sl 5) (.sl 61))]
 (qr [ql 62 5 true 5,qo 63 (.call 82 [.sl 62] []),qo 64 (.un .not (.sl 63)),qm 65 64,⟨(some (65,false)),(some 66),.mv (.sl 4)⟩,⟨(some (65,false)),(some 67),.bin .gtr (.sl 66) (.k (.int .i64 0))⟩,⟨(some (65,false)),(some 68),.mv (.sl 67)⟩,⟨(some (68,true)),(some 69),.fad 1 (.sl 1)⟩,⟨(some (68,true)),(some 70),.load 1 false (.sl 69)⟩,⟨(some (68,true)),(some 71),.mv (.sl 4)⟩,⟨(some (68,true)),(some 72),.bin .sub (.sl 71) (.k (.int .i64 1))⟩,⟨(some (68,true)),(some 73),.iad 5 (.sl 70) (.sl 72)⟩,⟨(some (68,true)),(some 74),.fad 0 (.sl 73)⟩,⟨(some (68,true)),(some 75),.load 1 false (.sl 74)⟩,⟨(some (68,true)),(some 76),.fad 0 (.sl 5)⟩,⟨(some (68,true)),(some 77),.load 1 false (.sl 76)⟩,⟨(some (68,true)),(some 78),.bin .geq (.sl 75) (.sl 77)⟩,⟨(some (65,false)),(some 79),.pick (.sl 68) (.sl 78) (.k (.bool false))⟩,qo 80 (.pick (.sl 65) (.k (.bool true)) (.sl 79)),qm 81 80,⟨(some (81,false)),(some 82),.load 2 true (.sl 1)⟩,⟨(some (81,false)),(some 83),.fad 2 (.sl 5)⟩,⟨(some (81,false)),(some 84),.load 1 false (.sl 83)⟩,⟨(some (81,false)),(some 85),.call 83 [(.sl 82),(.sl 84)] []⟩,⟨(some (81,false)),(some 86),.bin .lss (.sl 85) (.k (.int .i64 0))⟩,qo 87 (.pick (.sl 81) (.k (.bool true)) (.sl 86)),qm 88 87,⟨(some (88,false)),(some 89),.load 2 true (.sl 1)⟩,⟨(some (88,false)),(some 90),.fad 3 (.sl 5)⟩,⟨(some (88,false)),(some 91),.load 1 false (.sl 90)⟩,⟨(some (88,false)),(some 92),.call 83 [(.sl 89),(.sl 91)] []⟩,⟨(some (88,false)),(some 93),.bin .lss (.sl 92) (.k (.int .i64 0))⟩,qo 94 (.pick (.sl 88) (.k (.bool true)) (.sl 93))]
 (qd 94 (qr [qi 2 1]
 .ret) .skip))))
 (.reg [qm 55 4,qk 56 .add 55 1,qm 4 56] []))))))
 (qr [qi 2 0]
 .ret)))))}
def F41:CFn:={nt:=8,nk:=0,own:=false,res:=[.cell 2 5 true],body:=(
 qr [qo 1 (.box 5 (.sl 0)),qo 2 (.alloc [(.int .i64 0),(.str ⟨#[]⟩),(.int .i64 0),(.int .i64 0),qN])]
 (qr [qf 3 4 1,ql 4 1 false 3,qo 5 (.call 84 [.sl 4] []),qf 6 4 1,qe (.store 1 (.sl 6) (.sl 5))]
 (qr [ql 7 5 true 1,qe (.store 5 (.sl 2) (.sl 7))]
 .ret)))}
def F42:CFn:={nt:=12,nk:=0,own:=false,res:=[.cell 2 3 true],body:=(
 qr [qo 1 (.box 3 (.sl 0)),qo 2 (.alloc [(.int .i64 0),qN,qN])]
 (.seq (.reg [qf 3 0 1,ql 4 1 false 3,qf 5 1 1,ql 6 1 false 5,qo 7 (.call 85 [.sl 6] []),qf 8 2 1,ql 9 1 false 8,qo 10 (.call 84 [.sl 9] []),qo 11 (.build [(.int .i64 0),qN,qN] [(0,1,(.sl 4)),(1,1,(.sl 7)),(2,1,(.sl 10))]),qe (.store 3 (.sl 2) (.sl 11))] [(1,4),(4,6),(1,7)])
 .ret))}
def F81:CFn:={nt:=16,nk:=0,own:=false,res:=[.tmp 2],body:=(
 qr [qo 1 (.box 3 (.sl 0)),qc 2 (.bool false)]
 (qr [qf 3 0 1,ql 4 1 false 3,qo 5 (.call 118 [.sl 4] []),qm 6 5,⟨(some (6,true)),(some 7),.fad 1 (.sl 1)⟩,⟨(some (6,true)),(some 8),.load 1 false (.sl 7)⟩,⟨(some (6,true)),(some 9),.call 119 [.sl 8] []⟩,qo 10 (.pick (.sl 6) (.sl 9) (.k (.bool false))),qm 11 10,⟨(some (11,true)),(some 12),.fad 2 (.sl 1)⟩,⟨(some (11,true)),(some 13),.load 1 false (.sl 12)⟩,⟨(some (11,true)),(some 14),.call 120 [.sl 13] []⟩,qo 15 (.pick (.sl 11) (.sl 14) (.k (.bool false))),qm 2 15]
 .ret))}
def F82:CFn:={nt:=26,nk:=0,own:=false,res:=[.tmp 2],body:=(
 qr [qo 1 (.box 5 (.sl 0)),qc 2 (.bool false)]
 (qr [qf 3 0 1,ql 4 1 false 3,qo 5 (.call 118 [.sl 4] []),qm 6 5,⟨(some (6,true)),(some 7),.fad 1 (.sl 1)⟩,⟨(some (6,true)),(some 8),.load 1 false (.sl 7)⟩,⟨(some (6,true)),(some 9),.call 121 [.sl 8] []⟩,qo 10 (.pick (.sl 6) (.sl 9) (.k (.bool false))),qm 11 10,⟨(some (11,true)),(some 12),.fad 2 (.sl 1)⟩,⟨(some (11,true)),(some 13),.load 1 false (.sl 12)⟩,⟨(some (11,true)),(some 14),.call 118 [.sl 13] []⟩,qo 15 (.pick (.sl 11) (.sl 14) (.k (.bool false))),qm 16 15,⟨(some (16,true)),(some 17),.fad 3 (.sl 1)⟩,⟨(some (16,true)),(some 18),.load 1 false (.sl 17)⟩,⟨(some (16,true)),(some 19),.call 118 [.sl 18] []⟩,qo 20 (.pick (.sl 16) (.sl 19) (.k (.bool false))),qm 21 20,⟨(some (21,true)),(some 22),.fad 4 (.sl 1)⟩,⟨(some (21,true)),(some 23),.load 1 false (.sl 22)⟩,⟨(some (21,true)),(some 24),.call 120 [.sl 23] []⟩,qo 25 (.pick (.sl 21) (.sl 24) (.k (.bool false))),qm 2 25]
 .ret))}
def F83:CFn:={nt:=22,nk:=0,own:=false,res:=[.tmp 4],body:=(
 qr [qo 2 (.box 2 (.sl 0)),qi 4 0]
 (.seq (qr [qi 5 0]
 (.block 0 (.loop (.seq (qr [qm 6 5,qf 7 0 2,ql 8 1 false 7,qo 9 (.len (.sl 8)),qb 10 .lss 6 9]
 (qd 10 .skip (.exit 0)))
 (.seq (.block 1 (qr [qf 13 0 2,ql 14 1 false 13,qm 15 5,qo 16 (.iad 3 (.sl 14) (.sl 15)),qf 17 0 16,ql 18 1 false 17,qm 19 1,qb 20 .eql 18 19]
 (qd 20 (qr [qm 21 5,qm 4 21]
 .ret) .skip)))
 (.reg [qm 11 5,qk 12 .add 11 1,qm 5 12] []))))))
 (qr [qi 4 (-1)]
 .ret)))}
def F84:CFn:={nt:=6,nk:=0,own:=false,res:=[.tmp 2],body:=(
 qr [qc 2 qN]
 (qr [qo 3 (.bsl 133 2 [(.str ⟨#[]⟩),(.str ⟨#[]⟩)] 0 []),qm 4 0,qo 5 (.app 133 2 32 (.sl 3) (.sl 4)),qm 2 5]
 .ret))}
def F85:CFn:={nt:=6,nk:=0,own:=false,res:=[.tmp 2],body:=(
 qr [qc 2 qN]
 (qr [qo 3 (.bsl 9 1 [(.str ⟨#[]⟩)] 0 []),qm 4 0,qo 5 (.app 9 1 16 (.sl 3) (.sl 4)),qm 2 5]
 .ret))}
def F118:CFn:={nt:=9,nk:=0,own:=false,res:=[.tmp 2],body:=(
 qr [qc 2 (.bool false)]
 (qr [qm 3 0,qk 4 .geq 3 1,qm 5 4,⟨(some (5,true)),(some 6),.mv (.sl 0)⟩,⟨(some (5,true)),(some 7),.bin .leq (.sl 6) (.k (.int .i64 1000000000000))⟩,qo 8 (.pick (.sl 5) (.sl 7) (.k (.bool false))),qm 2 8]
 .ret))}
def F119:CFn:={nt:=24,nk:=0,own:=false,res:=[.tmp 2],body:=(
 qr [qc 2 (.bool false)]
 (.seq (qr [qm 4 0,qo 5 (.len (.sl 4)),qk 6 .gtr 5 10,qm 7 6,⟨(some (7,false)),(some 8),.mv (.sl 0)⟩,⟨(some (7,false)),(some 9),.call 166 [.sl 8] []⟩,⟨(some (7,false)),(some 10),.un .not (.sl 9)⟩,qo 11 (.pick (.sl 7) (.k (.bool true)) (.sl 10))]
 (qd 11 (qr [qc 2 (.bool false)]
 .ret) .skip))
 (.seq (qr [qi 3 0]
 (.block 0 (.loop (.seq (qr [qm 12 3,qm 13 0,qo 14 (.len (.sl 13)),qb 15 .lss 12 14]
 (qd 15 .skip (.exit 0)))
 (.seq (.block 1 (qr [qm 18 0,qm 19 3,qo 20 (.iad 1 (.sl 18) (.sl 19)),ql 21 1 false 20,qo 22 (.call 121 [.sl 21] []),qo 23 (.un .not (.sl 22))]
 (qd 23 (qr [qc 2 (.bool false)]
 .ret) .skip)))
 (.reg [qm 16 3,qk 17 .add 16 1,qm 3 17] []))))))
 (qr [qc 2 (.bool true)]
 .ret))))}
def F120:CFn:={nt:=47,nk:=0,own:=false,res:=[.tmp 2],body:=(
 qr [qc 2 (.bool false)]
 (.seq (qr [qm 4 0,qo 5 (.len (.sl 4)),qk 6 .gtr 5 20]
 (qd 6 (qr [qc 2 (.bool false)]
 .ret) .skip))
 (.seq (qr [qi 3 0]
 (.block 0 (.loop (.seq (qr [qm 7 3,qm 8 0,qo 9 (.len (.sl 8)),qb 10 .lss 7 9]
 (qd 10 .skip (.exit 0)))
 (.seq (.block 1 (qr [qm 13 0,qm 14 3,qo 15 (.iad 2 (.sl 13) (.sl 14)),qf 16 0 15,ql 17 1 false 16,qo 18 (.call 121 [.sl 17] []),qo 19 (.un .not (.sl 18)),qm 20 19,⟨(some (20,false)),(some 21),.mv (.sl 3)⟩,⟨(some (20,false)),(some 22),.bin .gtr (.sl 21) (.k (.int .i64 0))⟩,⟨(some (20,false)),(some 23),.mv (.sl 22)⟩,⟨(some (23,true)),(some 24),.mv (.sl 0)⟩,⟨(some (23,true)),(some 25),.mv (.sl 3)⟩,⟨(some (23,true)),(some 26),.bin .sub (.sl 25) (.k (.int .i64 1))⟩,⟨(some (23,true)),(some 27),.iad 2 (.sl 24) (.sl 26)⟩,⟨(some (23,true)),(some 28),.fad 0 (.sl 27)⟩,⟨(some (23,true)),(some 29),.load 1 false (.sl 28)⟩,⟨(some (23,true)),(some 30),.mv (.sl 0)⟩,⟨(some (23,true)),(some 31),.mv (.sl 3)⟩,⟨(some (23,true)),(some 32),.iad 2 (.sl 30) (.sl 31)⟩,⟨(some (23,true)),(some 33),.fad 0 (.sl 32)⟩,⟨(some (23,true)),(some 34),.load 1 false (.sl 33)⟩,⟨(some (23,true)),(some 35),.bin .geq (.sl 29) (.sl 34)⟩,⟨(some (20,false)),(some 36),.pick (.sl 23) (.sl 35) (.k (.bool false))⟩,qo 37 (.pick (.sl 20) (.k (.bool true)) (.sl 36)),qm 38 37,⟨(some (38,false)),(some 39),.mv (.sl 0)⟩,⟨(some (38,false)),(some 40),.mv (.sl 3)⟩,⟨(some (38,false)),(some 41),.iad 2 (.sl 39) (.sl 40)⟩,⟨(some (38,false)),(some 42),.fad 1 (.sl 41)⟩,⟨(some (38,false)),(some 43),.load 1 false (.sl 42)⟩,⟨(some (38,false)),(some 44),.call 167 [.sl 43] []⟩,⟨(some (38,false)),(some 45),.un .not (.sl 44)⟩,qo 46 (.pick (.sl 38) (.k (.bool true)) (.sl 45))]
 (qd 46 (qr [qc 2 (.bool false)]
 .ret) .skip)))
 (.reg [qm 11 3,qk 12 .add 11 1,qm 3 12] []))))))
 (qr [qc 2 (.bool true)]
 .ret))))}
def F121:CFn:={nt:=42,nk:=0,own:=false,res:=[.tmp 2],body:=(
 qr [qc 2 (.bool false)]
 (.seq (qr [qm 4 0,qo 5 (.slen (.sl 4)),qk 6 .lss 5 1,qm 7 6,⟨(some (7,false)),(some 8),.mv (.sl 0)⟩,⟨(some (7,false)),(some 9),.slen (.sl 8)⟩,⟨(some (7,false)),(some 10),.bin .gtr (.sl 9) (.k (.int .i64 20))⟩,qo 11 (.pick (.sl 7) (.k (.bool true)) (.sl 10)),qm 12 11,⟨(some (12,false)),(some 13),.mv (.sl 0)⟩,⟨(some (12,false)),(some 14),.sidx (.sl 13) (.k (.int .i64 0))⟩,⟨(some (12,false)),(some 15),.call 168 [.sl 14] []⟩,⟨(some (12,false)),(some 16),.un .not (.sl 15)⟩,qo 17 (.pick (.sl 12) (.k (.bool true)) (.sl 16))]
 (qd 17 (qr [qc 2 (.bool false)]
 .ret) .skip))
 (.seq (qr [qi 3 1]
 (.block 0 (.loop (.seq (qr [qm 18 3,qm 19 0,qo 20 (.slen (.sl 19)),qb 21 .lss 18 20]
 (qd 21 .skip (.exit 0)))
 (.seq (.block 1 (qr [qm 24 0,qm 25 3,qo 26 (.sidx (.sl 24) (.sl 25)),qo 27 (.call 168 [.sl 26] []),qo 28 (.un .not (.sl 27)),qm 29 28,⟨(some (29,true)),(some 30),.mv (.sl 0)⟩,⟨(some (29,true)),(some 31),.mv (.sl 3)⟩,⟨(some (29,true)),(some 32),.sidx (.sl 30) (.sl 31)⟩,⟨(some (29,true)),(some 33),.call 169 [.sl 32] []⟩,⟨(some (29,true)),(some 34),.un .not (.sl 33)⟩,qo 35 (.pick (.sl 29) (.sl 34) (.k (.bool false))),qm 36 35,⟨(some (36,true)),(some 37),.mv (.sl 0)⟩,⟨(some (36,true)),(some 38),.mv (.sl 3)⟩,⟨(some (36,true)),(some 39),.sidx (.sl 37) (.sl 38)⟩,⟨(some (36,true)),(some 40),.bin .neq (.sl 39) (.k (.int .u8 95))⟩,qo 41 (.pick (.sl 36) (.sl 40) (.k (.bool false)))]
 (qd 41 (qr [qc 2 (.bool false)]
 .ret) .skip)))
 (.reg [qm 22 3,qk 23 .add 22 1,qm 3 23] []))))))
 (qr [qc 2 (.bool true)]
 .ret))))}
def F166:CFn:={nt:=20,nk:=0,own:=false,res:=[.tmp 2],body:=(
 qr [qc 2 (.bool false)]
 (.seq (qr [qi 3 1]
 (.block 0 (.loop (.seq (qr [qm 4 3,qm 5 0,qo 6 (.len (.sl 5)),qb 7 .lss 4 6]
 (qd 7 .skip (.exit 0)))
 (.seq (.block 1 (qr [qm 10 0,qm 11 3,qk 12 .sub 11 1,qo 13 (.iad 1 (.sl 10) (.sl 12)),ql 14 1 false 13,qm 15 0,qm 16 3,qo 17 (.iad 1 (.sl 15) (.sl 16)),ql 18 1 false 17,qb 19 .geq 14 18]
 (qd 19 (qr [qc 2 (.bool false)]
 .ret) .skip)))
 (.reg [qm 8 3,qk 9 .add 8 1,qm 3 9] []))))))
 (qr [qc 2 (.bool true)]
 .ret)))}
def F167:CFn:={nt:=13,nk:=0,own:=false,res:=[.tmp 2],body:=(
 qr [qc 2 (.bool false)]
 (qr [qm 4 0,qo 5 (.call 186 [.sl 4] []),qo 3 (.alloc [(.int .i64 0),(.int .i64 0),(.int .i64 0),(.str ⟨#[]⟩),qN,qN]),qe (.store 6 (.sl 3) (.sl 5))]
 (qr [qf 6 0 3,ql 7 1 false 6,qk 8 .neq 7 0,qm 9 8,⟨(some (9,true)),(some 10),.load 6 true (.sl 3)⟩,⟨(some (9,true)),(some 11),.call 191 [.sl 10] []⟩,qo 12 (.pick (.sl 9) (.sl 11) (.k (.bool false))),qm 2 12]
 .ret)))}
def F168:CFn:={nt:=17,nk:=0,own:=false,res:=[.tmp 2],body:=(
 qr [qc 2 (.bool false)]
 (qr [qm 3 0,qo 4 (.bin .geq (.sl 3) (.k (.int .u8 97))),qm 5 4,⟨(some (5,true)),(some 6),.mv (.sl 0)⟩,⟨(some (5,true)),(some 7),.bin .leq (.sl 6) (.k (.int .u8 122))⟩,qo 8 (.pick (.sl 5) (.sl 7) (.k (.bool false))),qm 9 8,⟨(some (9,false)),(some 10),.mv (.sl 0)⟩,⟨(some (9,false)),(some 11),.bin .geq (.sl 10) (.k (.int .u8 65))⟩,⟨(some (9,false)),(some 12),.mv (.sl 11)⟩,⟨(some (12,true)),(some 13),.mv (.sl 0)⟩,⟨(some (12,true)),(some 14),.bin .leq (.sl 13) (.k (.int .u8 90))⟩,⟨(some (9,false)),(some 15),.pick (.sl 12) (.sl 14) (.k (.bool false))⟩,qo 16 (.pick (.sl 9) (.k (.bool true)) (.sl 15)),qm 2 16]
 .ret))}
def F169:CFn:={nt:=9,nk:=0,own:=false,res:=[.tmp 2],body:=(
 qr [qc 2 (.bool false)]
 (qr [qm 3 0,qo 4 (.bin .geq (.sl 3) (.k (.int .u8 48))),qm 5 4,⟨(some (5,true)),(some 6),.mv (.sl 0)⟩,⟨(some (5,true)),(some 7),.bin .leq (.sl 6) (.k (.int .u8 57))⟩,qo 8 (.pick (.sl 5) (.sl 7) (.k (.bool false))),qm 2 8]
 .ret))}
def F186:CFn:={nt:=29,nk:=0,own:=false,res:=[.cell 2 6 true],body:=(
 qr [qo 2 (.alloc [(.int .i64 0),(.int .i64 0),(.int .i64 0),(.str ⟨#[]⟩),qN,qN])]
 (.seq (qr [qm 5 0,qo 6 (.slen (.sl 5)),qk 7 .gtr 6 2000]
 (qd 7 (qr [qo 8 (.build [(.int .i64 0),(.int .i64 0),(.int .i64 0),(.str ⟨#[]⟩),qN,qN] [(0,1,(.k (.int .i64 (-1))))]),qe (.store 6 (.sl 2) (.sl 8))]
 .ret) .skip))
 (qr [qm 9 0,qo 10 (.build [(.str ⟨#[]⟩),(.int .i64 0),(.bool false)] [(0,1,(.sl 9))]),qo 11 (.box 3 (.sl 10)),qm 3 11]
 (qr [qm 12 3,qo 13 (.call 200 [(.sl 12),(.k (.int .i64 0))] []),qo 4 (.alloc [(.int .i64 0),(.int .i64 0),(.int .i64 0),(.str ⟨#[]⟩),qN,qN]),qe (.store 6 (.sl 4) (.sl 13))]
 (.seq (qr [qm 14 3,qo 15 (.nck (.sl 14)),qf 16 2 15,ql 17 1 false 16,qm 18 17,⟨(some (18,false)),(some 19),.mv (.sl 3)⟩,⟨(some (18,false)),(some 20),.nck (.sl 19)⟩,⟨(some (18,false)),(some 21),.fad 1 (.sl 20)⟩,⟨(some (18,false)),(some 22),.load 1 false (.sl 21)⟩,⟨(some (18,false)),(some 23),.mv (.sl 0)⟩,⟨(some (18,false)),(some 24),.slen (.sl 23)⟩,⟨(some (18,false)),(some 25),.bin .neq (.sl 22) (.sl 24)⟩,qo 26 (.pick (.sl 18) (.k (.bool true)) (.sl 25))]
 (qd 26 (qr [qo 27 (.build [(.int .i64 0),(.int .i64 0),(.int .i64 0),(.str ⟨#[]⟩),qN,qN] [(0,1,(.k (.int .i64 (-1))))]),qe (.store 6 (.sl 2) (.sl 27))]
 .ret) .skip))
 (qr [ql 28 6 true 4,qe (.store 6 (.sl 2) (.sl 28))]
 .ret))))))}
def F191:CFn:={nt:=35,nk:=0,own:=false,res:=[.tmp 2],body:=(
 qr [qo 1 (.box 6 (.sl 0)),qc 2 (.bool false)]
 (.seq (qr [qf 4 0 1,ql 5 1 false 4,qk 6 .lss 5 0,qm 7 6,⟨(some (7,false)),(some 8),.fad 0 (.sl 1)⟩,⟨(some (7,false)),(some 9),.load 1 false (.sl 8)⟩,⟨(some (7,false)),(some 10),.bin .geq (.sl 9) (.k (.int .i64 8))⟩,qo 11 (.pick (.sl 7) (.k (.bool true)) (.sl 10))]
 (qd 11 (qr [qc 2 (.bool false)]
 .ret) .skip))
 (.seq (qr [qi 3 0]
 (.block 0 (.loop (.seq (qr [qm 12 3,qf 13 4 1,ql 14 1 false 13,qo 15 (.len (.sl 14)),qb 16 .lss 12 15]
 (qd 16 .skip (.exit 0)))
 (.seq (.block 1 (qr [qf 19 4 1,ql 20 1 false 19,qm 21 3,qo 22 (.iad 6 (.sl 20) (.sl 21)),qf 23 0 22,ql 24 1 false 23,qk 25 .neq 24 0,qm 26 25,⟨(some (26,true)),(some 27),.fad 4 (.sl 1)⟩,⟨(some (26,true)),(some 28),.load 1 false (.sl 27)⟩,⟨(some (26,true)),(some 29),.mv (.sl 3)⟩,⟨(some (26,true)),(some 30),.iad 6 (.sl 28) (.sl 29)⟩,⟨(some (26,true)),(some 31),.load 6 true (.sl 30)⟩,⟨(some (26,true)),(some 32),.call 191 [.sl 31] []⟩,⟨(some (26,true)),(some 33),.un .not (.sl 32)⟩,qo 34 (.pick (.sl 26) (.sl 33) (.k (.bool false)))]
 (qd 34 (qr [qc 2 (.bool false)]
 .ret) .skip)))
 (.reg [qm 17 3,qk 18 .add 17 1,qm 3 18] []))))))
 (qr [qc 2 (.bool true)]
 .ret))))}
def F200:CFn:={nt:=135,nk:=1,own:=false,res:=[.cell 4 6 true],body:=(
 qr [qo 4 (.alloc [(.int .i64 0),(.int .i64 0),(.int .i64 0),(.str ⟨#[]⟩),qN,qN])]
 (.seq (qr [qm 7 0,qo 8 (.nck (.sl 7)),qf 9 2 8,ql 10 1 false 9,qm 11 10,⟨(some (11,false)),(some 12),.mv (.sl 0)⟩,⟨(some (11,false)),(some 13),.nck (.sl 12)⟩,⟨(some (11,false)),(some 14),.fad 1 (.sl 13)⟩,⟨(some (11,false)),(some 15),.load 1 false (.sl 14)⟩,⟨(some (11,false)),(some 16),.mv (.sl 0)⟩,⟨(some (11,false)),(some 17),.nck (.sl 16)⟩,⟨(some (11,false)),(some 18),.fad 0 (.sl 17)⟩,⟨(some (11,false)),(some 19),.load 1 false (.sl 18)⟩,⟨(some (11,false)),(some 20),.slen (.sl 19)⟩,⟨(some (11,false)),(some 21),.bin .geq (.sl 15) (.sl 20)⟩,qo 22 (.pick (.sl 11) (.k (.bool true)) (.sl 21))]
 (qd 22 (qr [qm 23 0,qo 24 (.call 209 [.sl 23] []),qe (.store 6 (.sl 4) (.sl 24))]
 .ret) .skip))
 (.seq (.block 0 (qr [qm 26 0,qo 27 (.call 210 [(.sl 26),(.k (.str ⟨#[110,117,108,108]⟩))] []),qm 25 27]
 (qd 25 (qr [qo 28 (.build [(.int .i64 0),(.int .i64 0),(.int .i64 0),(.str ⟨#[]⟩),qN,qN] []),qe (.store 6 (.sl 4) (.sl 28))]
 .ret) (qr [qm 30 0,qo 31 (.call 210 [(.sl 30),(.k (.str ⟨#[116,114,117,101]⟩))] []),qm 29 31]
 (qd 29 (qr [qo 32 (.build [(.int .i64 0),(.int .i64 0),(.int .i64 0),(.str ⟨#[]⟩),qN,qN] [(0,1,(.k (.int .i64 1))),(1,1,(.k (.int .i64 1)))]),qe (.store 6 (.sl 4) (.sl 32))]
 .ret) (qr [qm 34 0,qo 35 (.call 210 [(.sl 34),(.k (.str ⟨#[102,97,108,115,101]⟩))] []),qm 33 35]
 (qd 33 (qr [qo 36 (.build [(.int .i64 0),(.int .i64 0),(.int .i64 0),(.str ⟨#[]⟩),qN,qN] [(0,1,(.k (.int .i64 1)))]),qe (.store 6 (.sl 4) (.sl 36))]
 .ret) (qr [qm 38 0,qo 39 (.call 210 [(.sl 38),(.k (.str ⟨#[34]⟩))] []),qm 37 39]
 (qd 37 (qr [qm 40 0,qo 41 (.call 211 [.sl 40] []),qo 42 (.build [(.int .i64 0),(.int .i64 0),(.int .i64 0),(.str ⟨#[]⟩),qN,qN] [(0,1,(.k (.int .i64 3))),(3,1,(.sl 41))]),qe (.store 6 (.sl 4) (.sl 42))]
 .ret) (qr [qm 44 0,qo 45 (.call 210 [(.sl 44),(.k (.str ⟨#[64]⟩))] []),qm 43 45]
 (qd 43 (qr [qm 46 0,qo 47 (.call 212 [.sl 46] []),qe (.store 6 (.sl 4) (.sl 47))]
 .ret) (qr [qm 49 0,qo 50 (.call 210 [(.sl 49),(.k (.str ⟨#[40]⟩))] []),qm 48 50]
 (qd 48 (qr [qm 51 0,qo 52 (.call 213 [.sl 51] []),qm 5 52]
 (qr [qm 53 0,qm 54 0,qo 55 (.nck (.sl 54)),qf 56 2 55,ql 57 1 false 56,qm 58 57,⟨(some (58,false)),(some 59),.mv (.sl 0)⟩,⟨(some (58,false)),(some 60),.call 210 [(.sl 59),(.k (.str ⟨#[32]⟩))] []⟩,⟨(some (58,false)),(some 61),.un .not (.sl 60)⟩,qo 62 (.pick (.sl 58) (.k (.bool true)) (.sl 61)),qo 63 (.nck (.sl 53)),qf 64 2 63,qe (.store 1 (.sl 64) (.sl 62))]
 (qr [qm 65 0,qo 66 (.call 213 [.sl 65] []),qm 6 66]
 (.seq (qr [qm 67 0,qo 68 (.nck (.sl 67)),qf 69 2 68,ql 70 1 false 69,qm 71 70,⟨(some (71,false)),(some 72),.mv (.sl 0)⟩,⟨(some (71,false)),(some 73),.call 210 [(.sl 72),(.k (.str ⟨#[41]⟩))] []⟩,⟨(some (71,false)),(some 74),.un .not (.sl 73)⟩,qo 75 (.pick (.sl 71) (.k (.bool true)) (.sl 74)),qm 76 75,⟨(some (76,false)),(some 77),.mv (.sl 5)⟩,⟨(some (76,false)),(some 78),.bin .lss (.sl 77) (.k (.int .i64 (-1000000)))⟩,qo 79 (.pick (.sl 76) (.k (.bool true)) (.sl 78)),qm 80 79,⟨(some (80,false)),(some 81),.mv (.sl 5)⟩,⟨(some (80,false)),(some 82),.bin .gtr (.sl 81) (.k (.int .i64 1000000))⟩,qo 83 (.pick (.sl 80) (.k (.bool true)) (.sl 82)),qm 84 83,⟨(some (84,false)),(some 85),.mv (.sl 6)⟩,⟨(some (84,false)),(some 86),.bin .lss (.sl 85) (.k (.int .i64 (-1000000)))⟩,qo 87 (.pick (.sl 84) (.k (.bool true)) (.sl 86)),qm 88 87,⟨(some (88,false)),(some 89),.mv (.sl 6)⟩,⟨(some (88,false)),(some 90),.bin .gtr (.sl 89) (.k (.int .i64 1000000))⟩,qo 91 (.pick (.sl 88) (.k (.bool true)) (.sl 90))]
 (qd 91 (qr [qm 92 0,qo 93 (.call 209 [.sl 92] []),qe (.store 6 (.sl 4) (.sl 93))]
 .ret) .skip))
 (qr [qm 94 5,qm 95 6,qo 96 (.build [(.int .i64 0),(.int .i64 0),(.int .i64 0),(.str ⟨#[]⟩),qN,qN] [(0,1,(.k (.int .i64 5))),(1,1,(.sl 94)),(2,1,(.sl 95))]),qe (.store 6 (.sl 4) (.sl 96))]
 .ret))))) (qr [qm 98 0,qo 99 (.call 210 [(.sl 98),(.k (.str ⟨#[110]⟩))] []),qm 97 99]
 (qd 97 (qr [qm 100 0,qo 101 (.call 214 [(.sl 100),(.k (.int .i64 8))] []),qe (.store 6 (.sl 4) (.sl 101))]
 .ret) (qr [qm 103 0,qo 104 (.call 210 [(.sl 103),(.k (.str ⟨#[101]⟩))] []),qm 102 104]
 (qd 102 (qr [qm 105 0,qo 106 (.call 214 [(.sl 105),(.k (.int .i64 9))] []),qe (.store 6 (.sl 4) (.sl 106))]
 .ret) (qr [qm 108 0,qo 109 (.call 210 [(.sl 108),(.k (.str ⟨#[60]⟩))] []),qm 107 109]
 (qd 107 (qr [qm 110 0,qo 111 (.call 215 [.sl 110] []),qe (.store 6 (.sl 4) (.sl 111))]
 .ret) (qr [qm 113 1,qk 114 .lss 113 5,qm 115 114,⟨(some (115,true)),(some 116),.mv (.sl 0)⟩,⟨(some (115,true)),(some 117),.call 210 [(.sl 116),(.k (.str ⟨#[91]⟩))] []⟩,qo 118 (.pick (.sl 115) (.sl 117) (.k (.bool false))),qm 112 118]
 (qd 112 (qr [qm 119 0,qm 120 1,qo 121 (.call 216 [(.sl 119),(.sl 120)] []),qe (.store 6 (.sl 4) (.sl 121))]
 .ret) (qr [qm 123 1,qk 124 .lss 123 5,qm 125 124,⟨(some (125,true)),(some 126),.mv (.sl 0)⟩,⟨(some (125,true)),(some 127),.call 210 [(.sl 126),(.k (.str ⟨#[123]⟩))] []⟩,qo 128 (.pick (.sl 125) (.sl 127) (.k (.bool false))),qm 122 128]
 (qd 122 (qr [qm 129 0,qm 130 1,qo 131 (.call 217 [(.sl 129),(.sl 130)] []),qe (.store 6 (.sl 4) (.sl 131))]
 .ret) .skip)))))))))))))))))))))))
 (qr [qm 132 0,qo 133 (.call 213 [.sl 132] []),qo 134 (.build [(.int .i64 0),(.int .i64 0),(.int .i64 0),(.str ⟨#[]⟩),qN,qN] [(0,1,(.k (.int .i64 2))),(1,1,(.sl 133))]),qe (.store 6 (.sl 4) (.sl 134))]
 .ret))))}
def F209:CFn:={nt:=7,nk:=1,own:=false,res:=[.cell 2 6 true],body:=(
 qr [qo 2 (.alloc [(.int .i64 0),(.int .i64 0),(.int .i64 0),(.str ⟨#[]⟩),qN,qN])]
 (qr [qm 3 0,qo 4 (.nck (.sl 3)),qf 5 2 4,qe (.store 1 (.sl 5) (.k (.bool true)))]
 (qr [qo 6 (.build [(.int .i64 0),(.int .i64 0),(.int .i64 0),(.str ⟨#[]⟩),qN,qN] [(0,1,(.k (.int .i64 (-1))))]),qe (.store 6 (.sl 2) (.sl 6))]
 .ret)))}
def F210:CFn:={nt:=33,nk:=1,own:=false,res:=[.tmp 4],body:=(
 qr [qc 4 (.bool false)]
 (.seq (qr [qm 5 0,qo 6 (.nck (.sl 5)),qf 7 2 6,ql 8 1 false 7,qo 9 (.un .not (.sl 8)),qm 10 9,⟨(some (10,true)),(some 11),.mv (.sl 0)⟩,⟨(some (10,true)),(some 12),.nck (.sl 11)⟩,⟨(some (10,true)),(some 13),.fad 0 (.sl 12)⟩,⟨(some (10,true)),(some 14),.load 1 false (.sl 13)⟩,⟨(some (10,true)),(some 15),.mv (.sl 0)⟩,⟨(some (10,true)),(some 16),.nck (.sl 15)⟩,⟨(some (10,true)),(some 17),.fad 1 (.sl 16)⟩,⟨(some (10,true)),(some 18),.load 1 false (.sl 17)⟩,⟨(some (10,true)),(some 19),.ssl (.sl 14) (some (.sl 18)) none⟩,⟨(some (10,true)),(some 20),.mv (.sl 1)⟩,⟨(some (10,true)),(some 21),.call 231 [(.sl 19),(.sl 20)] []⟩,qo 22 (.pick (.sl 10) (.sl 21) (.k (.bool false)))]
 (qd 22 (qr [qm 23 0,qm 24 0,qo 25 (.nck (.sl 24)),qf 26 1 25,ql 27 1 false 26,qm 28 1,qo 29 (.slen (.sl 28)),qb 30 .add 27 29,qo 31 (.nck (.sl 23)),qf 32 1 31,qe (.store 1 (.sl 32) (.sl 30))]
 (qr [qc 4 (.bool true)]
 .ret)) .skip))
 (qr [qc 4 (.bool false)]
 .ret)))}
def F211:CFn:={nt:=122,nk:=1,own:=false,res:=[.tmp 2],body:=(
 qr [qc 2 (.str ⟨#[]⟩)]
 (qr [qo 5 (.bsl 5 1 [(.int .u8 0)] 0 []),qm 3 5]
 (.seq (.block 0 (.loop (.seq (qr [qm 6 0,qo 7 (.nck (.sl 6)),qf 8 1 7,ql 9 1 false 8,qm 10 0,qo 11 (.nck (.sl 10)),qf 12 0 11,ql 13 1 false 12,qo 14 (.slen (.sl 13)),qb 15 .lss 9 14]
 (qd 15 .skip (.exit 0)))
 (.block 1 (qr [qm 16 0,qo 17 (.nck (.sl 16)),qf 18 0 17,ql 19 1 false 18,qm 20 0,qo 21 (.nck (.sl 20)),qf 22 1 21,ql 23 1 false 22,qo 24 (.sidx (.sl 19) (.sl 23)),qm 4 24]
 (qr [qm 25 0,qm 26 0,qo 27 (.nck (.sl 26)),qf 28 1 27,ql 29 1 false 28,qk 30 .add 29 1,qo 31 (.nck (.sl 25)),qf 32 1 31,qe (.store 1 (.sl 32) (.sl 30))]
 (.seq (.block 2 (qr [qm 34 4,qo 35 (.bin .eql (.sl 34) (.k (.int .u8 34))),qm 33 35]
 (qd 33 (qr [qm 36 3,qo 37 (.b2s (.sl 36)),qm 2 37]
 .ret) (qr [qm 39 4,qo 40 (.bin .lss (.sl 39) (.k (.int .u8 32))),qm 38 40]
 (qd 38 (qr [qm 41 0,qo 42 (.nck (.sl 41)),qf 43 2 42,qe (.store 1 (.sl 43) (.k (.bool true)))]
 (qr [qc 2 (.str ⟨#[]⟩)]
 .ret)) (qr [qm 45 4,qo 46 (.bin .eql (.sl 45) (.k (.int .u8 92))),qm 44 46]
 (qd 44 (.seq (qr [qm 47 0,qo 48 (.nck (.sl 47)),qf 49 1 48,ql 50 1 false 49,qm 51 0,qo 52 (.nck (.sl 51)),qf 53 0 52,ql 54 1 false 53,qo 55 (.slen (.sl 54)),qb 56 .geq 50 55,qm 57 56,⟨(some (57,false)),(some 58),.mv (.sl 0)⟩,⟨(some (57,false)),(some 59),.nck (.sl 58)⟩,⟨(some (57,false)),(some 60),.fad 0 (.sl 59)⟩,⟨(some (57,false)),(some 61),.load 1 false (.sl 60)⟩,⟨(some (57,false)),(some 62),.mv (.sl 0)⟩,⟨(some (57,false)),(some 63),.nck (.sl 62)⟩,⟨(some (57,false)),(some 64),.fad 1 (.sl 63)⟩,⟨(some (57,false)),(some 65),.load 1 false (.sl 64)⟩,⟨(some (57,false)),(some 66),.sidx (.sl 61) (.sl 65)⟩,⟨(some (57,false)),(some 67),.bin .neq (.sl 66) (.k (.int .u8 34))⟩,⟨(some (57,false)),(some 68),.mv (.sl 67)⟩,⟨(some (68,true)),(some 69),.mv (.sl 0)⟩,⟨(some (68,true)),(some 70),.nck (.sl 69)⟩,⟨(some (68,true)),(some 71),.fad 0 (.sl 70)⟩,⟨(some (68,true)),(some 72),.load 1 false (.sl 71)⟩,⟨(some (68,true)),(some 73),.mv (.sl 0)⟩,⟨(some (68,true)),(some 74),.nck (.sl 73)⟩,⟨(some (68,true)),(some 75),.fad 1 (.sl 74)⟩,⟨(some (68,true)),(some 76),.load 1 false (.sl 75)⟩,⟨(some (68,true)),(some 77),.sidx (.sl 72) (.sl 76)⟩,⟨(some (68,true)),(some 78),.bin .neq (.sl 77) (.k (.int .u8 92))⟩,⟨(some (57,false)),(some 79),.pick (.sl 68) (.sl 78) (.k (.bool false))⟩,⟨(some (57,false)),(some 80),.mv (.sl 79)⟩,⟨(some (80,true)),(some 81),.mv (.sl 0)⟩,⟨(some (80,true)),(some 82),.nck (.sl 81)⟩,⟨(some (80,true)),(some 83),.fad 0 (.sl 82)⟩,⟨(some (80,true)),(some 84),.load 1 false (.sl 83)⟩,⟨(some (80,true)),(some 85),.mv (.sl 0)⟩,⟨(some (80,true)),(some 86),.nck (.sl 85)⟩,⟨(some (80,true)),(some 87),.fad 1 (.sl 86)⟩,⟨(some (80,true)),(some 88),.load 1 false (.sl 87)⟩,⟨(some (80,true)),(some 89),.sidx (.sl 84) (.sl 88)⟩,⟨(some (80,true)),(some 90),.bin .neq (.sl 89) (.k (.int .u8 110))⟩,⟨(some (57,false)),(some 91),.pick (.sl 80) (.sl 90) (.k (.bool false))⟩,qo 92 (.pick (.sl 57) (.k (.bool true)) (.sl 91))]
 (qd 92 (qr [qm 93 0,qo 94 (.nck (.sl 93)),qf 95 2 94,qe (.store 1 (.sl 95) (.k (.bool true)))]
 (qr [qc 2 (.str ⟨#[]⟩)]
 .ret)) .skip))
 (qr [qm 96 0,qo 97 (.nck (.sl 96)),qf 98 0 97,ql 99 1 false 98,qm 100 0,qo 101 (.nck (.sl 100)),qf 102 1 101,ql 103 1 false 102,qo 104 (.sidx (.sl 99) (.sl 103)),qm 4 104]
 (.seq (qr [qm 105 4,qo 106 (.bin .eql (.sl 105) (.k (.int .u8 110)))]
 (qd 106 (.reg [qc 4 (.int .u8 10)] []) .skip))
 (.reg [qm 107 0,qm 108 0,qo 109 (.nck (.sl 108)),qf 110 1 109,ql 111 1 false 110,qk 112 .add 111 1,qo 113 (.nck (.sl 107)),qf 114 1 113,qe (.store 1 (.sl 114) (.sl 112))] [])))) .skip)))))))
 (.reg [qm 115 3,qm 116 4,qo 117 (.bsl 5 1 [(.int .u8 0)] 1 [(0,1,(.sl 116))]),qo 118 (.app 5 1 1 (.sl 115) (.sl 117)),qm 3 118] []))))))))
 (qr [qm 119 0,qo 120 (.nck (.sl 119)),qf 121 2 120,qe (.store 1 (.sl 121) (.k (.bool true)))]
 (qr [qc 2 (.str ⟨#[]⟩)]
 .ret)))))}
def F212:CFn:={nt:=84,nk:=1,own:=false,res:=[.cell 2 6 true],body:=(
 qr [qo 2 (.alloc [(.int .i64 0),(.int .i64 0),(.int .i64 0),(.str ⟨#[]⟩),qN,qN])]
 (qr [qm 8 0,qo 9 (.call 232 [(.sl 8),(.k (.int .i64 4))] []),qm 3 9]
 (qr [qm 10 0,qm 11 0,qo 12 (.nck (.sl 11)),qf 13 2 12,ql 14 1 false 13,qm 15 14,⟨(some (15,false)),(some 16),.mv (.sl 0)⟩,⟨(some (15,false)),(some 17),.call 210 [(.sl 16),(.k (.str ⟨#[45]⟩))] []⟩,⟨(some (15,false)),(some 18),.un .not (.sl 17)⟩,qo 19 (.pick (.sl 15) (.k (.bool true)) (.sl 18)),qo 20 (.nck (.sl 10)),qf 21 2 20,qe (.store 1 (.sl 21) (.sl 19))]
 (qr [qm 22 0,qo 23 (.call 232 [(.sl 22),(.k (.int .i64 2))] []),qm 4 23]
 (qr [qm 24 0,qm 25 0,qo 26 (.nck (.sl 25)),qf 27 2 26,ql 28 1 false 27,qm 29 28,⟨(some (29,false)),(some 30),.mv (.sl 0)⟩,⟨(some (29,false)),(some 31),.call 210 [(.sl 30),(.k (.str ⟨#[45]⟩))] []⟩,⟨(some (29,false)),(some 32),.un .not (.sl 31)⟩,qo 33 (.pick (.sl 29) (.k (.bool true)) (.sl 32)),qo 34 (.nck (.sl 24)),qf 35 2 34,qe (.store 1 (.sl 35) (.sl 33))]
 (qr [qm 36 0,qo 37 (.call 232 [(.sl 36),(.k (.int .i64 2))] []),qm 5 37]
 (.seq (qr [qm 38 0,qo 39 (.nck (.sl 38)),qf 40 2 39,ql 41 1 false 40,qm 42 41,⟨(some (42,false)),(some 43),.mv (.sl 3)⟩,⟨(some (42,false)),(some 44),.bin .lss (.sl 43) (.k (.int .i64 1))⟩,qo 45 (.pick (.sl 42) (.k (.bool true)) (.sl 44)),qm 46 45,⟨(some (46,false)),(some 47),.mv (.sl 4)⟩,⟨(some (46,false)),(some 48),.bin .lss (.sl 47) (.k (.int .i64 1))⟩,qo 49 (.pick (.sl 46) (.k (.bool true)) (.sl 48)),qm 50 49,⟨(some (50,false)),(some 51),.mv (.sl 4)⟩,⟨(some (50,false)),(some 52),.bin .gtr (.sl 51) (.k (.int .i64 12))⟩,qo 53 (.pick (.sl 50) (.k (.bool true)) (.sl 52)),qm 54 53,⟨(some (54,false)),(some 55),.mv (.sl 5)⟩,⟨(some (54,false)),(some 56),.bin .lss (.sl 55) (.k (.int .i64 1))⟩,qo 57 (.pick (.sl 54) (.k (.bool true)) (.sl 56)),qm 58 57,⟨(some (58,false)),(some 59),.mv (.sl 5)⟩,⟨(some (58,false)),(some 60),.mv (.sl 3)⟩,⟨(some (58,false)),(some 61),.mv (.sl 4)⟩,⟨(some (58,false)),(some 62),.call 233 [(.sl 60),(.sl 61)] []⟩,⟨(some (58,false)),(some 63),.bin .gtr (.sl 59) (.sl 62)⟩,qo 64 (.pick (.sl 58) (.k (.bool true)) (.sl 63))]
 (qd 64 (qr [qm 65 0,qo 66 (.call 209 [.sl 65] []),qe (.store 6 (.sl 2) (.sl 66))]
 .ret) .skip))
 (qr [qm 67 3,qo 68 (.call 234 [.sl 67] []),qm 69 5,qb 70 .add 68 69,qk 71 .sub 70 1,qm 6 71]
 (.seq (qr [qi 7 1]
 (.block 0 (.loop (.seq (qr [qm 72 7,qm 73 4,qb 74 .lss 72 73]
 (qd 74 .skip (.exit 0)))
 (.seq (.block 1 (.reg [qm 77 6,qm 78 3,qm 79 7,qo 80 (.call 233 [(.sl 78),(.sl 79)] []),qb 81 .add 77 80,qm 6 81] []))
 (.reg [qm 75 7,qk 76 .add 75 1,qm 7 76] []))))))
 (qr [qm 82 6,qo 83 (.build [(.int .i64 0),(.int .i64 0),(.int .i64 0),(.str ⟨#[]⟩),qN,qN] [(0,1,(.k (.int .i64 4))),(1,1,(.sl 82))]),qe (.store 6 (.sl 2) (.sl 83))]
 .ret))))))))))}
def F213:CFn:={nt:=134,nk:=1,own:=false,res:=[.tmp 2],body:=(
 qr [qi 2 0]
 (qr [qm 5 0,qo 6 (.nck (.sl 5)),qf 7 1 6,ql 8 1 false 7,qm 3 8]
 (.seq (qr [qm 9 0,qo 10 (.nck (.sl 9)),qf 11 1 10,ql 12 1 false 11,qm 13 0,qo 14 (.nck (.sl 13)),qf 15 0 14,ql 16 1 false 15,qo 17 (.slen (.sl 16)),qb 18 .lss 12 17,qm 19 18,⟨(some (19,true)),(some 20),.mv (.sl 0)⟩,⟨(some (19,true)),(some 21),.nck (.sl 20)⟩,⟨(some (19,true)),(some 22),.fad 0 (.sl 21)⟩,⟨(some (19,true)),(some 23),.load 1 false (.sl 22)⟩,⟨(some (19,true)),(some 24),.mv (.sl 0)⟩,⟨(some (19,true)),(some 25),.nck (.sl 24)⟩,⟨(some (19,true)),(some 26),.fad 1 (.sl 25)⟩,⟨(some (19,true)),(some 27),.load 1 false (.sl 26)⟩,⟨(some (19,true)),(some 28),.sidx (.sl 23) (.sl 27)⟩,⟨(some (19,true)),(some 29),.bin .eql (.sl 28) (.k (.int .u8 45))⟩,qo 30 (.pick (.sl 19) (.sl 29) (.k (.bool false)))]
 (qd 30 (.reg [qm 31 0,qm 32 0,qo 33 (.nck (.sl 32)),qf 34 1 33,ql 35 1 false 34,qk 36 .add 35 1,qo 37 (.nck (.sl 31)),qf 38 1 37,qe (.store 1 (.sl 38) (.sl 36))] []) .skip))
 (qr [qi 4 0]
 (.seq (.block 0 (.loop (.seq (qr [qm 39 0,qo 40 (.nck (.sl 39)),qf 41 1 40,ql 42 1 false 41,qm 43 0,qo 44 (.nck (.sl 43)),qf 45 0 44,ql 46 1 false 45,qo 47 (.slen (.sl 46)),qb 48 .lss 42 47,qm 49 48,⟨(some (49,true)),(some 50),.mv (.sl 0)⟩,⟨(some (49,true)),(some 51),.nck (.sl 50)⟩,⟨(some (49,true)),(some 52),.fad 0 (.sl 51)⟩,⟨(some (49,true)),(some 53),.load 1 false (.sl 52)⟩,⟨(some (49,true)),(some 54),.mv (.sl 0)⟩,⟨(some (49,true)),(some 55),.nck (.sl 54)⟩,⟨(some (49,true)),(some 56),.fad 1 (.sl 55)⟩,⟨(some (49,true)),(some 57),.load 1 false (.sl 56)⟩,⟨(some (49,true)),(some 58),.sidx (.sl 53) (.sl 57)⟩,⟨(some (49,true)),(some 59),.call 169 [.sl 58] []⟩,qo 60 (.pick (.sl 49) (.sl 59) (.k (.bool false)))]
 (qd 60 .skip (.exit 0)))
 (.block 1 (qr [qm 61 4,qk 62 .mul 61 10,qm 63 0,qo 64 (.nck (.sl 63)),qf 65 0 64,ql 66 1 false 65,qm 67 0,qo 68 (.nck (.sl 67)),qf 69 1 68,ql 70 1 false 69,qo 71 (.sidx (.sl 66) (.sl 70)),qo 72 (.bin .sub (.sl 71) (.k (.int .u8 48))),qo 73 (.toInt .i64 (.sl 72)),qb 74 .add 62 73,qm 4 74]
 (.reg [qm 75 0,qm 76 0,qo 77 (.nck (.sl 76)),qf 78 1 77,ql 79 1 false 78,qk 80 .add 79 1,qo 81 (.nck (.sl 75)),qf 82 1 81,qe (.store 1 (.sl 82) (.sl 80))] []))))))
 (.seq (qr [qm 83 3,qm 84 0,qo 85 (.nck (.sl 84)),qf 86 1 85,ql 87 1 false 86,qb 88 .lss 83 87,qm 89 88,⟨(some (89,true)),(some 90),.mv (.sl 0)⟩,⟨(some (89,true)),(some 91),.nck (.sl 90)⟩,⟨(some (89,true)),(some 92),.fad 0 (.sl 91)⟩,⟨(some (89,true)),(some 93),.load 1 false (.sl 92)⟩,⟨(some (89,true)),(some 94),.mv (.sl 3)⟩,⟨(some (89,true)),(some 95),.sidx (.sl 93) (.sl 94)⟩,⟨(some (89,true)),(some 96),.bin .eql (.sl 95) (.k (.int .u8 45))⟩,qo 97 (.pick (.sl 89) (.sl 96) (.k (.bool false)))]
 (qd 97 (.reg [qm 98 4,qo 99 (.un .neg (.sl 98)),qm 4 99] []) .skip))
 (.seq (.seq (.reg [qm 100 3,qm 101 0,qo 102 (.nck (.sl 101)),qf 103 1 102,ql 104 1 false 103,qb 105 .eql 100 104,qm 106 105,⟨(some (106,false)),(some 107),.mv (.sl 0)⟩,⟨(some (106,false)),(some 108),.nck (.sl 107)⟩,⟨(some (106,false)),(some 109),.fad 1 (.sl 108)⟩,⟨(some (106,false)),(some 110),.load 1 false (.sl 109)⟩,⟨(some (106,false)),(some 111),.mv (.sl 3)⟩,⟨(some (106,false)),(some 112),.bin .sub (.sl 110) (.sl 111)⟩,⟨(some (106,false)),(some 113),.bin .gtr (.sl 112) (.k (.int .i64 20))⟩,qo 114 (.pick (.sl 106) (.k (.bool true)) (.sl 113)),qm 115 114,⟨(some (115,false)),(some 116),.mv (.sl 4)⟩,⟨(some (115,false)),(some 117),.call 98 [.sl 116] []⟩,⟨(some (115,false)),(some 118),.mv (.sl 0)⟩,⟨(some (115,false)),(some 119),.nck (.sl 118)⟩,⟨(some (115,false)),(some 120),.fad 0 (.sl 119)⟩,⟨(some (115,false)),(some 121),.load 1 false (.sl 120)⟩,⟨(some (115,false)),(some 122),.mv (.sl 3)⟩,⟨(some (115,false)),(some 123),.mv (.sl 0)⟩,⟨(some (115,false)),(some 124),.nck (.sl 123)⟩,⟨(some (115,false)),(some 125),.fad 1 (.sl 124)⟩,⟨(some (115,false)),(some 126),.load 1 false (.sl 125)⟩,⟨(some (115,false)),(some 127),.ssl (.sl 121) (some (.sl 122)) (some (.sl 126))⟩,⟨(some (115,false)),(some 128),.bin .neq (.sl 117) (.sl 127)⟩,qo 129 (.pick (.sl 115) (.k (.bool true)) (.sl 128))] [(17,21),(17,26)])
 (qd 129 (.reg [qm 130 0,qo 131 (.nck (.sl 130)),qf 132 2 131,qe (.store 1 (.sl 132) (.k (.bool true)))] []) .skip))
 (qr [qm 133 4,qm 2 133]
 .ret))))))))}
def F214:CFn:={nt:=20,nk:=1,own:=false,res:=[.cell 4 6 true],body:=(
 qr [qo 4 (.alloc [(.int .i64 0),(.int .i64 0),(.int .i64 0),(.str ⟨#[]⟩),qN,qN])]
 (qr [qm 6 0,qo 7 (.call 213 [.sl 6] []),qm 5 7]
 (.seq (qr [qm 8 5,qk 9 .lss 8 1,qm 10 9,⟨(some (10,false)),(some 11),.mv (.sl 5)⟩,⟨(some (10,false)),(some 12),.bin .gtr (.sl 11) (.k (.int .i64 1000000000000))⟩,qo 13 (.pick (.sl 10) (.k (.bool true)) (.sl 12))]
 (qd 13 (.reg [qm 14 0,qo 15 (.nck (.sl 14)),qf 16 2 15,qe (.store 1 (.sl 16) (.k (.bool true)))] []) .skip))
 (qr [qm 17 1,qm 18 5,qo 19 (.build [(.int .i64 0),(.int .i64 0),(.int .i64 0),(.str ⟨#[]⟩),qN,qN] [(0,1,(.sl 17)),(1,1,(.sl 18))]),qe (.store 6 (.sl 4) (.sl 19))]
 .ret))))}
def F215:CFn:={nt:=44,nk:=1,own:=false,res:=[.cell 2 6 true],body:=(
 qr [qo 2 (.alloc [(.int .i64 0),(.int .i64 0),(.int .i64 0),(.str ⟨#[]⟩),qN,qN])]
 (qr [qo 6 (.build [(.int .i64 0),(.int .i64 0),(.int .i64 0),(.str ⟨#[]⟩),qN,qN] [(0,1,(.k (.int .i64 10)))]),qo 3 (.alloc [(.int .i64 0),(.int .i64 0),(.int .i64 0),(.str ⟨#[]⟩),qN,qN]),qe (.store 6 (.sl 3) (.sl 6))]
 (.seq (.block 0 (.loop (.seq (qr [qm 7 0,qo 8 (.nck (.sl 7)),qf 9 2 8,ql 10 1 false 9,qo 11 (.un .not (.sl 10))]
 (qd 11 .skip (.exit 0)))
 (.block 1 (qr [qc 4 (.str ⟨#[110]⟩)]
 (qr [qi 5 8]
 (.seq (qr [qf 12 4 3,ql 13 1 false 12,qo 14 (.len (.sl 13)),qk 15 .rem 14 2,qk 16 .eql 15 1]
 (qd 16 (qr [qc 4 (.str ⟨#[101]⟩)]
 (.reg [qi 5 9] [])) .skip))
 (.seq (qr [qm 17 0,qm 18 4,qo 19 (.call 210 [(.sl 17),(.sl 18)] []),qo 20 (.un .not (.sl 19))]
 (qd 20 (qr [qm 21 0,qo 22 (.call 209 [.sl 21] []),qe (.store 6 (.sl 2) (.sl 22))]
 .ret) .skip))
 (.seq (.reg [qf 23 4 3,ql 24 1 false 23,qm 25 0,qm 26 5,qo 27 (.call 214 [(.sl 25),(.sl 26)] []),qo 28 (.bsl 199 6 [(.int .i64 0),(.int .i64 0),(.int .i64 0),(.str ⟨#[]⟩),qN,qN] 1 [(0,6,(.sl 27))]),qo 29 (.app 199 6 88 (.sl 24) (.sl 28)),qf 30 4 3,qe (.store 1 (.sl 30) (.sl 29))] [(1,4)])
 (.seq (qr [qm 31 5,qk 32 .eql 31 8,qm 33 32,⟨(some (33,true)),(some 34),.mv (.sl 0)⟩,⟨(some (33,true)),(some 35),.call 210 [(.sl 34),(.k (.str ⟨#[62]⟩))] []⟩,qo 36 (.pick (.sl 33) (.sl 35) (.k (.bool false)))]
 (qd 36 (qr [ql 37 6 true 3,qe (.store 6 (.sl 2) (.sl 37))]
 .ret) .skip))
 (qr [qm 38 0,qo 39 (.call 210 [(.sl 38),(.k (.str ⟨#[32]⟩))] []),qo 40 (.un .not (.sl 39))]
 (qd 40 (qr [qm 41 0,qo 42 (.call 209 [.sl 41] []),qe (.store 6 (.sl 2) (.sl 42))]
 .ret) .skip))))))))))))
 (qr [ql 43 6 true 3,qe (.store 6 (.sl 2) (.sl 43))]
 .ret))))}
def F216:CFn:={nt:=33,nk:=1,own:=false,res:=[.cell 4 6 true],body:=(
 qr [qo 4 (.alloc [(.int .i64 0),(.int .i64 0),(.int .i64 0),(.str ⟨#[]⟩),qN,qN])]
 (qr [qo 6 (.build [(.int .i64 0),(.int .i64 0),(.int .i64 0),(.str ⟨#[]⟩),qN,qN] [(0,1,(.k (.int .i64 6)))]),qo 5 (.alloc [(.int .i64 0),(.int .i64 0),(.int .i64 0),(.str ⟨#[]⟩),qN,qN]),qe (.store 6 (.sl 5) (.sl 6))]
 (.seq (qr [qm 7 0,qo 8 (.call 210 [(.sl 7),(.k (.str ⟨#[93]⟩))] [])]
 (qd 8 (qr [ql 9 6 true 5,qe (.store 6 (.sl 4) (.sl 9))]
 .ret) .skip))
 (.seq (.block 0 (.loop (.seq (qr [qm 10 0,qo 11 (.nck (.sl 10)),qf 12 2 11,ql 13 1 false 12,qo 14 (.un .not (.sl 13))]
 (qd 14 .skip (.exit 0)))
 (.block 1 (.seq (.reg [qf 15 4 5,ql 16 1 false 15,qm 17 0,qm 18 1,qk 19 .add 18 1,qo 20 (.call 200 [(.sl 17),(.sl 19)] []),qo 21 (.bsl 199 6 [(.int .i64 0),(.int .i64 0),(.int .i64 0),(.str ⟨#[]⟩),qN,qN] 1 [(0,6,(.sl 20))]),qo 22 (.app 199 6 88 (.sl 16) (.sl 21)),qf 23 4 5,qe (.store 1 (.sl 23) (.sl 22))] [(1,5)])
 (.seq (qr [qm 24 0,qo 25 (.call 210 [(.sl 24),(.k (.str ⟨#[93]⟩))] [])]
 (qd 25 (qr [ql 26 6 true 5,qe (.store 6 (.sl 4) (.sl 26))]
 .ret) .skip))
 (qr [qm 27 0,qo 28 (.call 210 [(.sl 27),(.k (.str ⟨#[44]⟩))] []),qo 29 (.un .not (.sl 28))]
 (qd 29 (qr [qm 30 0,qo 31 (.call 209 [.sl 30] []),qe (.store 6 (.sl 4) (.sl 31))]
 .ret) .skip))))))))
 (qr [ql 32 6 true 5,qe (.store 6 (.sl 4) (.sl 32))]
 .ret)))))}
def F217:CFn:={nt:=51,nk:=1,own:=false,res:=[.cell 4 6 true],body:=(
 qr [qo 4 (.alloc [(.int .i64 0),(.int .i64 0),(.int .i64 0),(.str ⟨#[]⟩),qN,qN])]
 (qr [qo 6 (.build [(.int .i64 0),(.int .i64 0),(.int .i64 0),(.str ⟨#[]⟩),qN,qN] [(0,1,(.k (.int .i64 7)))]),qo 5 (.alloc [(.int .i64 0),(.int .i64 0),(.int .i64 0),(.str ⟨#[]⟩),qN,qN]),qe (.store 6 (.sl 5) (.sl 6))]
 (.seq (qr [qm 7 0,qo 8 (.call 210 [(.sl 7),(.k (.str ⟨#[125]⟩))] [])]
 (qd 8 (qr [ql 9 6 true 5,qe (.store 6 (.sl 4) (.sl 9))]
 .ret) .skip))
 (.seq (.block 0 (.loop (.seq (qr [qm 10 0,qo 11 (.nck (.sl 10)),qf 12 2 11,ql 13 1 false 12,qo 14 (.un .not (.sl 13))]
 (qd 14 .skip (.exit 0)))
 (.block 1 (.seq (.reg [qf 15 5 5,ql 16 1 false 15,qm 17 0,qo 18 (.call 235 [.sl 17] []),qo 19 (.bsl 9 1 [(.str ⟨#[]⟩)] 1 [(0,1,(.sl 18))]),qo 20 (.app 9 1 16 (.sl 16) (.sl 19)),qf 21 5 5,qe (.store 1 (.sl 21) (.sl 20))] [(1,3)])
 (.seq (qr [qm 22 0,qo 23 (.call 210 [(.sl 22),(.k (.str ⟨#[58]⟩))] []),qo 24 (.un .not (.sl 23))]
 (qd 24 (qr [qm 25 0,qo 26 (.call 209 [.sl 25] []),qe (.store 6 (.sl 4) (.sl 26))]
 .ret) .skip))
 (.seq (.reg [qf 27 4 5,ql 28 1 false 27,qm 29 0,qm 30 1,qk 31 .add 30 1,qo 32 (.call 200 [(.sl 29),(.sl 31)] []),qo 33 (.bsl 199 6 [(.int .i64 0),(.int .i64 0),(.int .i64 0),(.str ⟨#[]⟩),qN,qN] 1 [(0,6,(.sl 32))]),qo 34 (.app 199 6 88 (.sl 28) (.sl 33)),qf 35 4 5,qe (.store 1 (.sl 35) (.sl 34))] [(1,5)])
 (.seq (qr [qm 36 0,qo 37 (.call 210 [(.sl 36),(.k (.str ⟨#[125]⟩))] [])]
 (qd 37 (.seq (qr [qf 38 5 5,ql 39 1 false 38,qo 40 (.call 166 [.sl 39] []),qo 41 (.un .not (.sl 40))]
 (qd 41 (qr [qm 42 0,qo 43 (.call 209 [.sl 42] []),qe (.store 6 (.sl 4) (.sl 43))]
 .ret) .skip))
 (qr [ql 44 6 true 5,qe (.store 6 (.sl 4) (.sl 44))]
 .ret)) .skip))
 (qr [qm 45 0,qo 46 (.call 210 [(.sl 45),(.k (.str ⟨#[44]⟩))] []),qo 47 (.un .not (.sl 46))]
 (qd 47 (qr [qm 48 0,qo 49 (.call 209 [.sl 48] []),qe (.store 6 (.sl 4) (.sl 49))]
 .ret) .skip))))))))))
 (qr [ql 50 6 true 5,qe (.store 6 (.sl 4) (.sl 50))]
 .ret)))))}
def F231:CFn:={nt:=18,nk:=0,own:=false,res:=[.tmp 4],body:=(
 qr [qc 4 (.bool false)]
 (qr [qm 5 0,qo 6 (.slen (.sl 5)),qm 7 1,qo 8 (.slen (.sl 7)),qb 9 .geq 6 8,qm 10 9,⟨(some (10,true)),(some 11),.mv (.sl 0)⟩,⟨(some (10,true)),(some 12),.mv (.sl 1)⟩,⟨(some (10,true)),(some 13),.slen (.sl 12)⟩,⟨(some (10,true)),(some 14),.ssl (.sl 11) none (some (.sl 13))⟩,⟨(some (10,true)),(some 15),.mv (.sl 1)⟩,⟨(some (10,true)),(some 16),.bin .eql (.sl 14) (.sl 15)⟩,qo 17 (.pick (.sl 10) (.sl 16) (.k (.bool false))),qm 4 17]
 .ret))}
def F232:CFn:={nt:=61,nk:=1,own:=false,res:=[.tmp 4],body:=(
 qr [qi 4 0]
 (qr [qi 5 0]
 (.seq (qr [qi 6 0]
 (.block 0 (.loop (.seq (qr [qm 7 6,qm 8 1,qb 9 .lss 7 8]
 (qd 9 .skip (.exit 0)))
 (.seq (.block 1 (.seq (qr [qm 12 0,qo 13 (.nck (.sl 12)),qf 14 1 13,ql 15 1 false 14,qm 16 0,qo 17 (.nck (.sl 16)),qf 18 0 17,ql 19 1 false 18,qo 20 (.slen (.sl 19)),qb 21 .geq 15 20,qm 22 21,⟨(some (22,false)),(some 23),.mv (.sl 0)⟩,⟨(some (22,false)),(some 24),.nck (.sl 23)⟩,⟨(some (22,false)),(some 25),.fad 0 (.sl 24)⟩,⟨(some (22,false)),(some 26),.load 1 false (.sl 25)⟩,⟨(some (22,false)),(some 27),.mv (.sl 0)⟩,⟨(some (22,false)),(some 28),.nck (.sl 27)⟩,⟨(some (22,false)),(some 29),.fad 1 (.sl 28)⟩,⟨(some (22,false)),(some 30),.load 1 false (.sl 29)⟩,⟨(some (22,false)),(some 31),.sidx (.sl 26) (.sl 30)⟩,⟨(some (22,false)),(some 32),.call 169 [.sl 31] []⟩,⟨(some (22,false)),(some 33),.un .not (.sl 32)⟩,qo 34 (.pick (.sl 22) (.k (.bool true)) (.sl 33))]
 (qd 34 (qr [qm 35 0,qo 36 (.nck (.sl 35)),qf 37 2 36,qe (.store 1 (.sl 37) (.k (.bool true)))]
 (qr [qi 4 0]
 .ret)) .skip))
 (qr [qm 38 5,qk 39 .mul 38 10,qm 40 0,qo 41 (.nck (.sl 40)),qf 42 0 41,ql 43 1 false 42,qm 44 0,qo 45 (.nck (.sl 44)),qf 46 1 45,ql 47 1 false 46,qo 48 (.sidx (.sl 43) (.sl 47)),qo 49 (.bin .sub (.sl 48) (.k (.int .u8 48))),qo 50 (.toInt .i64 (.sl 49)),qb 51 .add 39 50,qm 5 51]
 (.reg [qm 52 0,qm 53 0,qo 54 (.nck (.sl 53)),qf 55 1 54,ql 56 1 false 55,qk 57 .add 56 1,qo 58 (.nck (.sl 52)),qf 59 1 58,qe (.store 1 (.sl 59) (.sl 57))] []))))
 (.reg [qm 10 6,qk 11 .add 10 1,qm 6 11] []))))))
 (qr [qm 60 5,qm 4 60]
 .ret))))}
def F233:CFn:={nt:=16,nk:=0,own:=false,res:=[.tmp 4],body:=(
 qr [qi 4 0]
 (.seq (qr [qm 5 1,qk 6 .eql 5 2,qm 7 6,⟨(some (7,true)),(some 8),.mv (.sl 0)⟩,⟨(some (7,true)),(some 9),.call 244 [.sl 8] []⟩,qo 10 (.pick (.sl 7) (.sl 9) (.k (.bool false)))]
 (qd 10 (qr [qi 4 29]
 .ret) .skip))
 (qr [qo 11 (.bsl 2 1 [(.int .i64 0)] 12 [(0,1,(.k (.int .i64 31))),(1,1,(.k (.int .i64 28))),(2,1,(.k (.int .i64 31))),(3,1,(.k (.int .i64 30))),(4,1,(.k (.int .i64 31))),(5,1,(.k (.int .i64 30))),(6,1,(.k (.int .i64 31))),(7,1,(.k (.int .i64 31))),(8,1,(.k (.int .i64 30))),(9,1,(.k (.int .i64 31))),(10,1,(.k (.int .i64 30))),(11,1,(.k (.int .i64 31)))]),qm 12 1,qk 13 .sub 12 1,qo 14 (.iad 1 (.sl 11) (.sl 13)),ql 15 1 false 14,qm 4 15]
 .ret)))}
def F234:CFn:={nt:=16,nk:=0,own:=false,res:=[.tmp 2],body:=(
 qr [qi 2 0]
 (qr [qm 3 0,qk 4 .sub 3 1,qm 0 4]
 (qr [qm 5 0,qk 6 .mul 5 365,qm 7 0,qk 8 .quo 7 4,qb 9 .add 6 8,qm 10 0,qk 11 .quo 10 100,qb 12 .sub 9 11,qm 13 0,qk 14 .quo 13 400,qb 15 .add 12 14,qm 2 15]
 .ret)))}
def F235:CFn:={nt:=87,nk:=1,own:=false,res:=[.tmp 2],body:=(
 qr [qc 2 (.str ⟨#[]⟩)]
 (qr [qm 4 0,qo 5 (.nck (.sl 4)),qf 6 1 5,ql 7 1 false 6,qm 3 7]
 (.seq (.block 0 (.loop (.seq (qr [qm 8 0,qo 9 (.nck (.sl 8)),qf 10 1 9,ql 11 1 false 10,qm 12 0,qo 13 (.nck (.sl 12)),qf 14 0 13,ql 15 1 false 14,qo 16 (.slen (.sl 15)),qb 17 .lss 11 16,qm 18 17,⟨(some (18,true)),(some 19),.mv (.sl 0)⟩,⟨(some (18,true)),(some 20),.nck (.sl 19)⟩,⟨(some (18,true)),(some 21),.fad 0 (.sl 20)⟩,⟨(some (18,true)),(some 22),.load 1 false (.sl 21)⟩,⟨(some (18,true)),(some 23),.mv (.sl 0)⟩,⟨(some (18,true)),(some 24),.nck (.sl 23)⟩,⟨(some (18,true)),(some 25),.fad 1 (.sl 24)⟩,⟨(some (18,true)),(some 26),.load 1 false (.sl 25)⟩,⟨(some (18,true)),(some 27),.sidx (.sl 22) (.sl 26)⟩,⟨(some (18,true)),(some 28),.call 168 [.sl 27] []⟩,⟨(some (18,true)),(some 29),.mv (.sl 28)⟩,⟨(some (29,false)),(some 30),.mv (.sl 0)⟩,⟨(some (29,false)),(some 31),.nck (.sl 30)⟩,⟨(some (29,false)),(some 32),.fad 0 (.sl 31)⟩,⟨(some (29,false)),(some 33),.load 1 false (.sl 32)⟩,⟨(some (29,false)),(some 34),.mv (.sl 0)⟩,⟨(some (29,false)),(some 35),.nck (.sl 34)⟩,⟨(some (29,false)),(some 36),.fad 1 (.sl 35)⟩,⟨(some (29,false)),(some 37),.load 1 false (.sl 36)⟩,⟨(some (29,false)),(some 38),.sidx (.sl 33) (.sl 37)⟩,⟨(some (29,false)),(some 39),.call 169 [.sl 38] []⟩,⟨(some (18,true)),(some 40),.pick (.sl 29) (.k (.bool true)) (.sl 39)⟩,⟨(some (18,true)),(some 41),.mv (.sl 40)⟩,⟨(some (41,false)),(some 42),.mv (.sl 0)⟩,⟨(some (41,false)),(some 43),.nck (.sl 42)⟩,⟨(some (41,false)),(some 44),.fad 0 (.sl 43)⟩,⟨(some (41,false)),(some 45),.load 1 false (.sl 44)⟩,⟨(some (41,false)),(some 46),.mv (.sl 0)⟩,⟨(some (41,false)),(some 47),.nck (.sl 46)⟩,⟨(some (41,false)),(some 48),.fad 1 (.sl 47)⟩,⟨(some (41,false)),(some 49),.load 1 false (.sl 48)⟩,⟨(some (41,false)),(some 50),.sidx (.sl 45) (.sl 49)⟩,⟨(some (41,false)),(some 51),.bin .eql (.sl 50) (.k (.int .u8 95))⟩,⟨(some (18,true)),(some 52),.pick (.sl 41) (.k (.bool true)) (.sl 51)⟩,qo 53 (.pick (.sl 18) (.sl 52) (.k (.bool false)))]
 (qd 53 .skip (.exit 0)))
 (.block 1 (.reg [qm 54 0,qm 55 0,qo 56 (.nck (.sl 55)),qf 57 1 56,ql 58 1 false 57,qk 59 .add 58 1,qo 60 (.nck (.sl 54)),qf 61 1 60,qe (.store 1 (.sl 61) (.sl 59))] [])))))
 (.seq (qr [qm 62 0,qo 63 (.nck (.sl 62)),qf 64 0 63,ql 65 1 false 64,qm 66 3,qm 67 0,qo 68 (.nck (.sl 67)),qf 69 1 68,ql 70 1 false 69,qo 71 (.ssl (.sl 65) (some (.sl 66)) (some (.sl 70))),qo 72 (.call 121 [.sl 71] []),qo 73 (.un .not (.sl 72))]
 (qd 73 (.reg [qm 74 0,qo 75 (.nck (.sl 74)),qf 76 2 75,qe (.store 1 (.sl 76) (.k (.bool true)))] []) .skip))
 (qr [qm 77 0,qo 78 (.nck (.sl 77)),qf 79 0 78,ql 80 1 false 79,qm 81 3,qm 82 0,qo 83 (.nck (.sl 82)),qf 84 1 83,ql 85 1 false 84,qo 86 (.ssl (.sl 80) (some (.sl 81)) (some (.sl 85))),qm 2 86]
 .ret)))))}
def F244:CFn:={nt:=16,nk:=0,own:=false,res:=[.tmp 2],body:=(
 qr [qc 2 (.bool false)]
 (qr [qm 3 0,qk 4 .rem 3 4,qk 5 .eql 4 0,qm 6 5,⟨(some (6,true)),(some 7),.mv (.sl 0)⟩,⟨(some (6,true)),(some 8),.bin .rem (.sl 7) (.k (.int .i64 100))⟩,⟨(some (6,true)),(some 9),.bin .neq (.sl 8) (.k (.int .i64 0))⟩,⟨(some (6,true)),(some 10),.mv (.sl 9)⟩,⟨(some (10,false)),(some 11),.mv (.sl 0)⟩,⟨(some (10,false)),(some 12),.bin .rem (.sl 11) (.k (.int .i64 400))⟩,⟨(some (10,false)),(some 13),.bin .eql (.sl 12) (.k (.int .i64 0))⟩,⟨(some (6,true)),(some 14),.pick (.sl 10) (.k (.bool true)) (.sl 13)⟩,qo 15 (.pick (.sl 6) (.sl 14) (.k (.bool false))),qm 2 15]
 .ret))}
def F98:CFn:={nt:=38,nk:=0,own:=false,res:=[.tmp 2],body:=(
 qr [qc 2 (.str ⟨#[]⟩)]
 (.seq (qr [qm 3 0,qk 4 .lss 3 0]
 (qd 4 (.seq (qr [qm 5 0,qk 6 .gtr 5 (-10)]
 (qd 6 (qr [qm 7 0,qo 8 (.un .neg (.sl 7)),qo 9 (.call 98 [.sl 8] []),qo 10 (.bin .add (.k (.str ⟨#[45]⟩)) (.sl 9)),qm 2 10]
 .ret) .skip))
 (qr [qm 11 0,qk 12 .quo 11 10,qo 13 (.call 98 [.sl 12] []),qm 14 0,qk 15 .rem 14 10,qo 16 (.bin .sub (.k (.int .i64 48)) (.sl 15)),qo 17 (.toInt .u8 (.sl 16)),qo 18 (.bsl 5 1 [(.int .u8 0)] 1 [(0,1,(.sl 17))]),qo 19 (.b2s (.sl 18)),qb 20 .add 13 19,qm 2 20]
 .ret)) .skip))
 (.seq (qr [qm 21 0,qk 22 .lss 21 10]
 (qd 22 (qr [qm 23 0,qo 24 (.bin .add (.k (.int .i64 48)) (.sl 23)),qo 25 (.toInt .u8 (.sl 24)),qo 26 (.bsl 5 1 [(.int .u8 0)] 1 [(0,1,(.sl 25))]),qo 27 (.b2s (.sl 26)),qm 2 27]
 .ret) .skip))
 (qr [qm 28 0,qk 29 .quo 28 10,qo 30 (.call 98 [.sl 29] []),qm 31 0,qk 32 .rem 31 10,qo 33 (.bin .add (.k (.int .i64 48)) (.sl 32)),qo 34 (.toInt .u8 (.sl 33)),qo 35 (.bsl 5 1 [(.int .u8 0)] 1 [(0,1,(.sl 34))]),qo 36 (.b2s (.sl 35)),qb 37 .add 30 36,qm 2 37]
 .ret))))}
def F46:CFn:={nt:=92,nk:=0,own:=false,res:=[.tmp 2],body:=(
 qr [qo 1 (.box 2 (.sl 0)),qc 2 (.bool false)]
 (.seq (qr [qf 8 0 1,ql 9 1 false 8,qo 10 (.len (.sl 9)),qk 11 .gtr 10 200,qm 12 11,⟨(some (12,false)),(some 13),.fad 1 (.sl 1)⟩,⟨(some (12,false)),(some 14),.load 1 false (.sl 13)⟩,⟨(some (12,false)),(some 15),.len (.sl 14)⟩,⟨(some (12,false)),(some 16),.bin .gtr (.sl 15) (.k (.int .i64 400))⟩,qo 17 (.pick (.sl 12) (.k (.bool true)) (.sl 16))]
 (qd 17 (qr [qc 2 (.bool false)]
 .ret) .skip))
 (qr [qo 18 (.mkmap),qm 3 18]
 (.seq (qr [qf 19 0 1,ql 20 1 false 19,qo 21 (.len (.sl 20)),qi 22 0]
 (.block 0 (.loop (qr [qb 23 .lss 22 21]
 (.seq (qd 23 .skip (.exit 0))
 (.seq (.block 1 (qr [qm 24 22,qo 25 (.iad 3 (.sl 20) (.sl 22)),ql 26 3 true 25,qo 5 (.alloc [(.int .i64 0),qN,qN]),qm 4 24,qe (.store 3 (.sl 5) (.sl 26))]
 (.seq (qr [ql 27 3 true 5,qo 28 (.call 88 [.sl 27] []),qo 29 (.un .not (.sl 28)),qm 30 29,⟨(some (30,false)),(some 31),.mv (.sl 4)⟩,⟨(some (30,false)),(some 32),.bin .gtr (.sl 31) (.k (.int .i64 0))⟩,⟨(some (30,false)),(some 33),.mv (.sl 32)⟩,⟨(some (33,true)),(some 34),.fad 0 (.sl 1)⟩,⟨(some (33,true)),(some 35),.load 1 false (.sl 34)⟩,⟨(some (33,true)),(some 36),.mv (.sl 4)⟩,⟨(some (33,true)),(some 37),.bin .sub (.sl 36) (.k (.int .i64 1))⟩,⟨(some (33,true)),(some 38),.iad 3 (.sl 35) (.sl 37)⟩,⟨(some (33,true)),(some 39),.fad 0 (.sl 38)⟩,⟨(some (33,true)),(some 40),.load 1 false (.sl 39)⟩,⟨(some (33,true)),(some 41),.fad 0 (.sl 5)⟩,⟨(some (33,true)),(some 42),.load 1 false (.sl 41)⟩,⟨(some (33,true)),(some 43),.bin .geq (.sl 40) (.sl 42)⟩,⟨(some (30,false)),(some 44),.pick (.sl 33) (.sl 43) (.k (.bool false))⟩,qo 45 (.pick (.sl 30) (.k (.bool true)) (.sl 44))]
 (qd 45 (qr [qc 2 (.bool false)]
 .ret) .skip))
 (.reg [qm 46 3,qf 47 0 5,ql 48 1 false 47,qe (.mpset 0 (.sl 46) (.sl 48) (.k (.int .i64 1)))] []))))
 (.reg [qk 49 .add 22 1,qm 22 49] [])))))))
 (.seq (qr [qf 50 1 1,ql 51 1 false 50,qo 52 (.len (.sl 51)),qi 53 0]
 (.block 2 (.loop (qr [qb 54 .lss 53 52]
 (.seq (qd 54 .skip (.exit 2))
 (.seq (.block 3 (qr [qm 55 53,qo 56 (.iad 5 (.sl 51) (.sl 53)),ql 57 5 true 56,qo 7 (.alloc [(.int .i64 0),(.str ⟨#[]⟩),(.int .i64 0),(.int .i64 0),qN]),qm 6 55,qe (.store 5 (.sl 7) (.sl 57))]
 (qr [ql 58 5 true 7,qo 59 (.call 89 [.sl 58] []),qo 60 (.un .not (.sl 59)),qm 61 60,⟨(some (61,false)),(some 62),.mv (.sl 6)⟩,⟨(some (61,false)),(some 63),.bin .gtr (.sl 62) (.k (.int .i64 0))⟩,⟨(some (61,false)),(some 64),.mv (.sl 63)⟩,⟨(some (64,true)),(some 65),.fad 1 (.sl 1)⟩,⟨(some (64,true)),(some 66),.load 1 false (.sl 65)⟩,⟨(some (64,true)),(some 67),.mv (.sl 6)⟩,⟨(some (64,true)),(some 68),.bin .sub (.sl 67) (.k (.int .i64 1))⟩,⟨(some (64,true)),(some 69),.iad 5 (.sl 66) (.sl 68)⟩,⟨(some (64,true)),(some 70),.fad 0 (.sl 69)⟩,⟨(some (64,true)),(some 71),.load 1 false (.sl 70)⟩,⟨(some (64,true)),(some 72),.fad 0 (.sl 7)⟩,⟨(some (64,true)),(some 73),.load 1 false (.sl 72)⟩,⟨(some (64,true)),(some 74),.bin .geq (.sl 71) (.sl 73)⟩,⟨(some (61,false)),(some 75),.pick (.sl 64) (.sl 74) (.k (.bool false))⟩,qo 76 (.pick (.sl 61) (.k (.bool true)) (.sl 75)),qm 77 76,⟨(some (77,false)),(some 78),.mv (.sl 3)⟩,⟨(some (77,false)),(some 79),.fad 2 (.sl 7)⟩,⟨(some (77,false)),(some 80),.load 1 false (.sl 79)⟩,⟨(some (77,false)),(some 81),.mpget false (.int .i64 0) 0 (.sl 78) (.sl 80)⟩,⟨(some (77,false)),(some 82),.bin .eql (.sl 81) (.k (.int .i64 0))⟩,qo 83 (.pick (.sl 77) (.k (.bool true)) (.sl 82)),qm 84 83,⟨(some (84,false)),(some 85),.mv (.sl 3)⟩,⟨(some (84,false)),(some 86),.fad 3 (.sl 7)⟩,⟨(some (84,false)),(some 87),.load 1 false (.sl 86)⟩,⟨(some (84,false)),(some 88),.mpget false (.int .i64 0) 0 (.sl 85) (.sl 87)⟩,⟨(some (84,false)),(some 89),.bin .eql (.sl 88) (.k (.int .i64 0))⟩,qo 90 (.pick (.sl 84) (.k (.bool true)) (.sl 89))]
 (qd 90 (qr [qc 2 (.bool false)]
 .ret) .skip))))
 (.reg [qk 91 .add 53 1,qm 53 91] [])))))))
 (qr [qc 2 (.bool true)]
 .ret))))))}
def F88:CFn:={nt:=16,nk:=0,own:=false,res:=[.tmp 2],body:=(
 qr [qo 1 (.box 3 (.sl 0)),qc 2 (.bool false)]
 (qr [qf 3 0 1,ql 4 1 false 3,qo 5 (.call 124 [.sl 4] []),qm 6 5,⟨(some (6,true)),(some 7),.fad 1 (.sl 1)⟩,⟨(some (6,true)),(some 8),.load 1 false (.sl 7)⟩,⟨(some (6,true)),(some 9),.call 125 [(.sl 8),(.k (.int .i64 10))] []⟩,qo 10 (.pick (.sl 6) (.sl 9) (.k (.bool false))),qm 11 10,⟨(some (11,true)),(some 12),.fad 2 (.sl 1)⟩,⟨(some (11,true)),(some 13),.load 1 false (.sl 12)⟩,⟨(some (11,true)),(some 14),.call 126 [.sl 13] []⟩,qo 15 (.pick (.sl 11) (.sl 14) (.k (.bool false))),qm 2 15]
 .ret))}
def F89:CFn:={nt:=26,nk:=0,own:=false,res:=[.tmp 2],body:=(
 qr [qo 1 (.box 5 (.sl 0)),qc 2 (.bool false)]
 (qr [qf 3 0 1,ql 4 1 false 3,qo 5 (.call 124 [.sl 4] []),qm 6 5,⟨(some (6,true)),(some 7),.fad 1 (.sl 1)⟩,⟨(some (6,true)),(some 8),.load 1 false (.sl 7)⟩,⟨(some (6,true)),(some 9),.call 127 [.sl 8] []⟩,qo 10 (.pick (.sl 6) (.sl 9) (.k (.bool false))),qm 11 10,⟨(some (11,true)),(some 12),.fad 2 (.sl 1)⟩,⟨(some (11,true)),(some 13),.load 1 false (.sl 12)⟩,⟨(some (11,true)),(some 14),.call 124 [.sl 13] []⟩,qo 15 (.pick (.sl 11) (.sl 14) (.k (.bool false))),qm 16 15,⟨(some (16,true)),(some 17),.fad 3 (.sl 1)⟩,⟨(some (16,true)),(some 18),.load 1 false (.sl 17)⟩,⟨(some (16,true)),(some 19),.call 124 [.sl 18] []⟩,qo 20 (.pick (.sl 16) (.sl 19) (.k (.bool false))),qm 21 20,⟨(some (21,true)),(some 22),.fad 4 (.sl 1)⟩,⟨(some (21,true)),(some 23),.load 1 false (.sl 22)⟩,⟨(some (21,true)),(some 24),.call 126 [.sl 23] []⟩,qo 25 (.pick (.sl 21) (.sl 24) (.k (.bool false))),qm 2 25]
 .ret))}
def F90:CFn:={nt:=21,nk:=0,own:=false,res:=[.tmp 4],body:=(
 qr [qo 2 (.box 2 (.sl 0)),qi 4 0]
 (.seq (qr [qf 7 0 2,ql 8 1 false 7,qo 9 (.len (.sl 8)),qi 10 0]
 (.block 0 (.loop (qr [qb 11 .lss 10 9]
 (.seq (qd 11 .skip (.exit 0))
 (.seq (.block 1 (qr [qm 12 10,qo 13 (.iad 3 (.sl 8) (.sl 10)),ql 14 3 true 13,qo 6 (.alloc [(.int .i64 0),qN,qN]),qm 5 12,qe (.store 3 (.sl 6) (.sl 14))]
 (qr [qf 15 0 6,ql 16 1 false 15,qm 17 1,qb 18 .eql 16 17]
 (qd 18 (qr [qm 19 5,qm 4 19]
 .ret) .skip))))
 (.reg [qk 20 .add 10 1,qm 10 20] [])))))))
 (qr [qi 4 (-1)]
 .ret)))}
def F124:CFn:={nt:=9,nk:=0,own:=false,res:=[.tmp 2],body:=(
 qr [qc 2 (.bool false)]
 (qr [qm 3 0,qk 4 .geq 3 1,qm 5 4,⟨(some (5,true)),(some 6),.mv (.sl 0)⟩,⟨(some (5,true)),(some 7),.bin .leq (.sl 6) (.k (.int .i64 1000000000000))⟩,qo 8 (.pick (.sl 5) (.sl 7) (.k (.bool false))),qm 2 8]
 .ret))}
def F125:CFn:={nt:=35,nk:=0,own:=false,res:=[.tmp 4],body:=(
 qr [qc 4 (.bool false)]
 (.seq (qr [qm 7 0,qo 8 (.len (.sl 7)),qm 9 1,qb 10 .gtr 8 9]
 (qd 10 (qr [qc 4 (.bool false)]
 .ret) .skip))
 (.seq (qr [qm 11 0,qo 12 (.len (.sl 11)),qi 13 0]
 (.block 0 (.loop (qr [qb 14 .lss 13 12]
 (.seq (qd 14 .skip (.exit 0))
 (.seq (.block 1 (qr [qm 15 13,qo 16 (.iad 1 (.sl 11) (.sl 13)),ql 17 1 false 16,qm 5 15,qm 6 17]
 (qr [qm 18 6,qo 19 (.call 127 [.sl 18] []),qo 20 (.un .not (.sl 19)),qm 21 20,⟨(some (21,false)),(some 22),.mv (.sl 5)⟩,⟨(some (21,false)),(some 23),.bin .gtr (.sl 22) (.k (.int .i64 0))⟩,⟨(some (21,false)),(some 24),.mv (.sl 23)⟩,⟨(some (24,true)),(some 25),.mv (.sl 0)⟩,⟨(some (24,true)),(some 26),.mv (.sl 5)⟩,⟨(some (24,true)),(some 27),.bin .sub (.sl 26) (.k (.int .i64 1))⟩,⟨(some (24,true)),(some 28),.iad 1 (.sl 25) (.sl 27)⟩,⟨(some (24,true)),(some 29),.load 1 false (.sl 28)⟩,⟨(some (24,true)),(some 30),.mv (.sl 6)⟩,⟨(some (24,true)),(some 31),.bin .geq (.sl 29) (.sl 30)⟩,⟨(some (21,false)),(some 32),.pick (.sl 24) (.sl 31) (.k (.bool false))⟩,qo 33 (.pick (.sl 21) (.k (.bool true)) (.sl 32))]
 (qd 33 (qr [qc 4 (.bool false)]
 .ret) .skip))))
 (.reg [qk 34 .add 13 1,qm 13 34] [])))))))
 (qr [qc 4 (.bool true)]
 .ret))))}
def F126:CFn:={nt:=41,nk:=0,own:=false,res:=[.tmp 2],body:=(
 qr [qc 2 (.bool false)]
 (.seq (qr [qm 5 0,qo 6 (.len (.sl 5)),qk 7 .gtr 6 20]
 (qd 7 (qr [qc 2 (.bool false)]
 .ret) .skip))
 (.seq (qr [qm 8 0,qo 9 (.len (.sl 8)),qi 10 0]
 (.block 0 (.loop (qr [qb 11 .lss 10 9]
 (.seq (qd 11 .skip (.exit 0))
 (.seq (.block 1 (qr [qm 12 10,qo 13 (.iad 2 (.sl 8) (.sl 10)),ql 14 2 true 13,qo 4 (.alloc [(.str ⟨#[]⟩),(.str ⟨#[]⟩)]),qm 3 12,qe (.store 2 (.sl 4) (.sl 14))]
 (qr [qf 15 0 4,ql 16 1 false 15,qo 17 (.call 127 [.sl 16] []),qo 18 (.un .not (.sl 17)),qm 19 18,⟨(some (19,false)),(some 20),.mv (.sl 3)⟩,⟨(some (19,false)),(some 21),.bin .gtr (.sl 20) (.k (.int .i64 0))⟩,⟨(some (19,false)),(some 22),.mv (.sl 21)⟩,⟨(some (22,true)),(some 23),.mv (.sl 0)⟩,⟨(some (22,true)),(some 24),.mv (.sl 3)⟩,⟨(some (22,true)),(some 25),.bin .sub (.sl 24) (.k (.int .i64 1))⟩,⟨(some (22,true)),(some 26),.iad 2 (.sl 23) (.sl 25)⟩,⟨(some (22,true)),(some 27),.fad 0 (.sl 26)⟩,⟨(some (22,true)),(some 28),.load 1 false (.sl 27)⟩,⟨(some (22,true)),(some 29),.fad 0 (.sl 4)⟩,⟨(some (22,true)),(some 30),.load 1 false (.sl 29)⟩,⟨(some (22,true)),(some 31),.bin .geq (.sl 28) (.sl 30)⟩,⟨(some (19,false)),(some 32),.pick (.sl 22) (.sl 31) (.k (.bool false))⟩,qo 33 (.pick (.sl 19) (.k (.bool true)) (.sl 32)),qm 34 33,⟨(some (34,false)),(some 35),.fad 1 (.sl 4)⟩,⟨(some (34,false)),(some 36),.load 1 false (.sl 35)⟩,⟨(some (34,false)),(some 37),.call 171 [.sl 36] []⟩,⟨(some (34,false)),(some 38),.un .not (.sl 37)⟩,qo 39 (.pick (.sl 34) (.k (.bool true)) (.sl 38))]
 (qd 39 (qr [qc 2 (.bool false)]
 .ret) .skip))))
 (.reg [qk 40 .add 10 1,qm 10 40] [])))))))
 (qr [qc 2 (.bool true)]
 .ret))))}
def F127:CFn:={nt:=42,nk:=0,own:=false,res:=[.tmp 2],body:=(
 qr [qc 2 (.bool false)]
 (.seq (qr [qm 4 0,qo 5 (.slen (.sl 4)),qk 6 .lss 5 1,qm 7 6,⟨(some (7,false)),(some 8),.mv (.sl 0)⟩,⟨(some (7,false)),(some 9),.slen (.sl 8)⟩,⟨(some (7,false)),(some 10),.bin .gtr (.sl 9) (.k (.int .i64 20))⟩,qo 11 (.pick (.sl 7) (.k (.bool true)) (.sl 10)),qm 12 11,⟨(some (12,false)),(some 13),.mv (.sl 0)⟩,⟨(some (12,false)),(some 14),.sidx (.sl 13) (.k (.int .i64 0))⟩,⟨(some (12,false)),(some 15),.call 172 [.sl 14] []⟩,⟨(some (12,false)),(some 16),.un .not (.sl 15)⟩,qo 17 (.pick (.sl 12) (.k (.bool true)) (.sl 16))]
 (qd 17 (qr [qc 2 (.bool false)]
 .ret) .skip))
 (.seq (qr [qm 18 0,qo 19 (.slen (.sl 18)),qi 20 0]
 (.block 0 (.loop (qr [qb 21 .lss 20 19]
 (.seq (qd 21 .skip (.exit 0))
 (.seq (.block 1 (qr [qm 22 20,qm 3 22]
 (qr [qm 23 0,qm 24 3,qo 25 (.sidx (.sl 23) (.sl 24)),qo 26 (.call 172 [.sl 25] []),qo 27 (.un .not (.sl 26)),qm 28 27,⟨(some (28,true)),(some 29),.mv (.sl 0)⟩,⟨(some (28,true)),(some 30),.mv (.sl 3)⟩,⟨(some (28,true)),(some 31),.sidx (.sl 29) (.sl 30)⟩,⟨(some (28,true)),(some 32),.call 173 [.sl 31] []⟩,⟨(some (28,true)),(some 33),.un .not (.sl 32)⟩,qo 34 (.pick (.sl 28) (.sl 33) (.k (.bool false))),qm 35 34,⟨(some (35,true)),(some 36),.mv (.sl 0)⟩,⟨(some (35,true)),(some 37),.mv (.sl 3)⟩,⟨(some (35,true)),(some 38),.sidx (.sl 36) (.sl 37)⟩,⟨(some (35,true)),(some 39),.bin .neq (.sl 38) (.k (.int .u8 95))⟩,qo 40 (.pick (.sl 35) (.sl 39) (.k (.bool false)))]
 (qd 40 (qr [qc 2 (.bool false)]
 .ret) .skip))))
 (.reg [qk 41 .add 20 1,qm 20 41] [])))))))
 (qr [qc 2 (.bool true)]
 .ret))))}
def F171:CFn:={nt:=21,nk:=0,own:=false,res:=[.tmp 2],body:=(
 qr [qc 2 (.bool false)]
 (qr [qm 6 0,qo 7 (.call 188 [.sl 6] []),qm 5 7,qo 8 (.ext (.sl 5) 0),qo 9 (.ext (.sl 5) 1),qo 3 (.alloc [(.int .i64 0),(.int .i64 0),(.int .i64 0),(.str ⟨#[]⟩),qN,qN]),qe (.store 6 (.sl 3) (.sl 8)),qm 4 9]
 (qr [qm 10 4,qm 11 10,⟨(some (11,true)),(some 12),.fad 0 (.sl 3)⟩,⟨(some (11,true)),(some 13),.load 1 false (.sl 12)⟩,⟨(some (11,true)),(some 14),.bin .neq (.sl 13) (.k (.int .i64 0))⟩,qo 15 (.pick (.sl 11) (.sl 14) (.k (.bool false))),qm 16 15,⟨(some (16,true)),(some 17),.load 6 true (.sl 3)⟩,⟨(some (16,true)),(some 18),.call 192 [.sl 17] []⟩,⟨(some (16,true)),(some 19),.un .not (.sl 18)⟩,qo 20 (.pick (.sl 16) (.sl 19) (.k (.bool false))),qm 2 20]
 .ret)))}
def F172:CFn:={nt:=17,nk:=0,own:=false,res:=[.tmp 2],body:=(
 qr [qc 2 (.bool false)]
 (qr [qm 3 0,qo 4 (.bin .geq (.sl 3) (.k (.int .u8 97))),qm 5 4,⟨(some (5,true)),(some 6),.mv (.sl 0)⟩,⟨(some (5,true)),(some 7),.bin .leq (.sl 6) (.k (.int .u8 122))⟩,qo 8 (.pick (.sl 5) (.sl 7) (.k (.bool false))),qm 9 8,⟨(some (9,false)),(some 10),.mv (.sl 0)⟩,⟨(some (9,false)),(some 11),.bin .geq (.sl 10) (.k (.int .u8 65))⟩,⟨(some (9,false)),(some 12),.mv (.sl 11)⟩,⟨(some (12,true)),(some 13),.mv (.sl 0)⟩,⟨(some (12,true)),(some 14),.bin .leq (.sl 13) (.k (.int .u8 90))⟩,⟨(some (9,false)),(some 15),.pick (.sl 12) (.sl 14) (.k (.bool false))⟩,qo 16 (.pick (.sl 9) (.k (.bool true)) (.sl 15)),qm 2 16]
 .ret))}
def F173:CFn:={nt:=9,nk:=0,own:=false,res:=[.tmp 2],body:=(
 qr [qc 2 (.bool false)]
 (qr [qm 3 0,qo 4 (.bin .geq (.sl 3) (.k (.int .u8 48))),qm 5 4,⟨(some (5,true)),(some 6),.mv (.sl 0)⟩,⟨(some (5,true)),(some 7),.bin .leq (.sl 6) (.k (.int .u8 57))⟩,qo 8 (.pick (.sl 5) (.sl 7) (.k (.bool false))),qm 2 8]
 .ret))}
def F188:CFn:={nt:=30,nk:=0,own:=false,res:=[.cell 2 6 true,.tmp 3],body:=(
 qr [qo 2 (.alloc [(.int .i64 0),(.int .i64 0),(.int .i64 0),(.str ⟨#[]⟩),qN,qN]),qc 3 (.bool false)]
 (.seq (qr [qm 7 0,qo 8 (.slen (.sl 7)),qk 9 .gtr 8 2000]
 (qd 9 (qr [qo 10 (.build [(.int .i64 0),(.int .i64 0),(.int .i64 0),(.str ⟨#[]⟩),qN,qN] []),qe (.store 6 (.sl 2) (.sl 10)),qc 3 (.bool false)]
 .ret) .skip))
 (qr [qm 11 0,qo 12 (.build [(.str ⟨#[]⟩),(.int .i64 0)] [(0,1,(.sl 11))]),qo 13 (.box 2 (.sl 12)),qm 4 13]
 (qr [qm 15 4,qo 16 (.call 201 [(.sl 15),(.k (.int .i64 0))] []),qm 14 16,qo 17 (.ext (.sl 14) 0),qo 18 (.ext (.sl 14) 1),qo 5 (.alloc [(.int .i64 0),(.int .i64 0),(.int .i64 0),(.str ⟨#[]⟩),qN,qN]),qe (.store 6 (.sl 5) (.sl 17)),qm 6 18]
 (.seq (.reg [ql 19 6 true 5,qm 20 6,qm 21 20,⟨(some (21,true)),(some 22),.mv (.sl 4)⟩,⟨(some (21,true)),(some 23),.nck (.sl 22)⟩,⟨(some (21,true)),(some 24),.fad 1 (.sl 23)⟩,⟨(some (21,true)),(some 25),.load 1 false (.sl 24)⟩,⟨(some (21,true)),(some 26),.mv (.sl 0)⟩,⟨(some (21,true)),(some 27),.slen (.sl 26)⟩,⟨(some (21,true)),(some 28),.bin .eql (.sl 25) (.sl 27)⟩,qo 29 (.pick (.sl 21) (.sl 28) (.k (.bool false))),qe (.store 6 (.sl 2) (.sl 19)),qm 3 29] [(6,11)])
 .ret)))))}
def F192:CFn:={nt:=18,nk:=0,own:=false,res:=[.tmp 2],body:=(
 qr [qo 1 (.box 6 (.sl 0)),qc 2 (.bool false)]
 (.seq (qr [qf 5 0 1,ql 6 1 false 5,qk 7 .geq 6 8]
 (qd 7 (qr [qc 2 (.bool true)]
 .ret) .skip))
 (.seq (qr [qf 8 5 1,ql 9 1 false 8,qo 10 (.len (.sl 9)),qi 11 0]
 (.block 0 (.loop (qr [qb 12 .lss 11 10]
 (.seq (qd 12 .skip (.exit 0))
 (.seq (.block 1 (qr [qo 13 (.iad 6 (.sl 9) (.sl 11)),ql 14 6 true 13,qo 4 (.alloc [(.int .i64 0),(.int .i64 0),(.int .i64 0),(.str ⟨#[]⟩),qN,qN]),qe (.store 6 (.sl 4) (.sl 14))]
 (qr [ql 15 6 true 4,qo 16 (.call 192 [.sl 15] [])]
 (qd 16 (qr [qc 2 (.bool true)]
 .ret) .skip))))
 (.reg [qk 17 .add 11 1,qm 11 17] [])))))))
 (qr [qc 2 (.bool false)]
 .ret))))}
def F201:CFn:={nt:=106,nk:=1,own:=false,res:=[.cell 4 6 true,.tmp 5],body:=(
 qr [qo 4 (.alloc [(.int .i64 0),(.int .i64 0),(.int .i64 0),(.str ⟨#[]⟩),qN,qN]),qc 5 (.bool false)]
 (.seq (qr [qm 13 0,qo 14 (.call 218 [.sl 13] []),qm 6 14]
 (.block 0 (qr [qm 16 6,qo 17 (.bin .eql (.sl 16) (.k (.int .u8 34))),qm 15 17]
 (qd 15 (qr [qm 19 0,qo 20 (.call 219 [.sl 19] []),qm 18 20,qo 21 (.ext (.sl 18) 0),qo 22 (.ext (.sl 18) 1),qm 7 21,qm 8 22]
 (qr [qm 23 7,qo 24 (.build [(.int .i64 0),(.int .i64 0),(.int .i64 0),(.str ⟨#[]⟩),qN,qN] [(0,1,(.k (.int .i64 3))),(3,1,(.sl 23))]),qm 25 8,qe (.store 6 (.sl 4) (.sl 24)),qm 5 25]
 .ret)) (qr [qm 27 6,qo 28 (.bin .eql (.sl 27) (.k (.int .u8 64))),qm 26 28]
 (qd 26 (qr [qm 30 0,qo 31 (.call 220 [.sl 30] []),qm 29 31,qo 32 (.ext (.sl 29) 0),qo 33 (.ext (.sl 29) 1),qm 9 32,qm 10 33]
 (qr [qm 34 9,qo 35 (.build [(.int .i64 0),(.int .i64 0),(.int .i64 0),(.str ⟨#[]⟩),qN,qN] [(0,1,(.k (.int .i64 4))),(1,1,(.sl 34))]),qm 36 10,qe (.store 6 (.sl 4) (.sl 35)),qm 5 36]
 .ret)) (qr [qm 38 6,qo 39 (.bin .eql (.sl 38) (.k (.int .u8 45))),qm 40 39,⟨(some (40,false)),(some 41),.mv (.sl 6)⟩,⟨(some (40,false)),(some 42),.call 173 [.sl 41] []⟩,qo 43 (.pick (.sl 40) (.k (.bool true)) (.sl 42)),qm 37 43]
 (qd 37 (qr [qm 45 0,qo 46 (.call 221 [.sl 45] []),qm 44 46,qo 47 (.ext (.sl 44) 0),qo 48 (.ext (.sl 44) 1),qm 11 47,qm 12 48]
 (qr [qm 49 11,qo 50 (.build [(.int .i64 0),(.int .i64 0),(.int .i64 0),(.str ⟨#[]⟩),qN,qN] [(0,1,(.k (.int .i64 2))),(1,1,(.sl 49))]),qm 51 12,qe (.store 6 (.sl 4) (.sl 50)),qm 5 51]
 .ret)) (qr [qm 53 6,qo 54 (.bin .eql (.sl 53) (.k (.int .u8 40))),qm 52 54]
 (qd 52 (qr [qm 55 0,qo 56 (.call 222 [.sl 55] []),qo 57 (.ext (.sl 56) 0),qo 58 (.ext (.sl 56) 1),qe (.store 6 (.sl 4) (.sl 57)),qm 5 58]
 .ret) (qr [qm 60 6,qo 61 (.bin .eql (.sl 60) (.k (.int .u8 91))),qm 59 61]
 (qd 59 (qr [qm 62 0,qm 63 1,qo 64 (.call 223 [(.sl 62),(.sl 63)] []),qo 65 (.ext (.sl 64) 0),qo 66 (.ext (.sl 64) 1),qe (.store 6 (.sl 4) (.sl 65)),qm 5 66]
 .ret) (qr [qm 68 6,qo 69 (.bin .eql (.sl 68) (.k (.int .u8 123))),qm 67 69]
 (qd 67 (qr [qm 70 0,qm 71 1,qo 72 (.call 224 [(.sl 70),(.sl 71)] []),qo 73 (.ext (.sl 72) 0),qo 74 (.ext (.sl 72) 1),qe (.store 6 (.sl 4) (.sl 73)),qm 5 74]
 .ret) (qr [qm 76 6,qo 77 (.bin .eql (.sl 76) (.k (.int .u8 60))),qm 75 77]
 (qd 75 (qr [qm 78 0,qo 79 (.call 225 [.sl 78] []),qo 80 (.ext (.sl 79) 0),qo 81 (.ext (.sl 79) 1),qe (.store 6 (.sl 4) (.sl 80)),qm 5 81]
 .ret) (qr [qm 83 0,qo 84 (.call 226 [(.sl 83),(.k (.str ⟨#[110,117,108,108]⟩))] []),qm 82 84]
 (qd 82 (qr [qo 85 (.build [(.int .i64 0),(.int .i64 0),(.int .i64 0),(.str ⟨#[]⟩),qN,qN] []),qe (.store 6 (.sl 4) (.sl 85)),qc 5 (.bool true)]
 .ret) (qr [qm 87 0,qo 88 (.call 226 [(.sl 87),(.k (.str ⟨#[116,114,117,101]⟩))] []),qm 86 88]
 (qd 86 (qr [qo 89 (.build [(.int .i64 0),(.int .i64 0),(.int .i64 0),(.str ⟨#[]⟩),qN,qN] [(0,1,(.k (.int .i64 1))),(1,1,(.k (.int .i64 1)))]),qe (.store 6 (.sl 4) (.sl 89)),qc 5 (.bool true)]
 .ret) (qr [qm 91 0,qo 92 (.call 226 [(.sl 91),(.k (.str ⟨#[102,97,108,115,101]⟩))] []),qm 90 92]
 (qd 90 (qr [qo 93 (.build [(.int .i64 0),(.int .i64 0),(.int .i64 0),(.str ⟨#[]⟩),qN,qN] [(0,1,(.k (.int .i64 1)))]),qe (.store 6 (.sl 4) (.sl 93)),qc 5 (.bool true)]
 .ret) (qr [qm 95 6,qo 96 (.bin .eql (.sl 95) (.k (.int .u8 110))),qm 97 96,⟨(some (97,false)),(some 98),.mv (.sl 6)⟩,⟨(some (97,false)),(some 99),.bin .eql (.sl 98) (.k (.int .u8 101))⟩,qo 100 (.pick (.sl 97) (.k (.bool true)) (.sl 99)),qm 94 100]
 (qd 94 (qr [qm 101 0,qo 102 (.call 227 [.sl 101] []),qo 103 (.ext (.sl 102) 0),qo 104 (.ext (.sl 102) 1),qe (.store 6 (.sl 4) (.sl 103)),qm 5 104]
 .ret) .skip))))))))))))))))))))))))
 (qr [qo 105 (.build [(.int .i64 0),(.int .i64 0),(.int .i64 0),(.str ⟨#[]⟩),qN,qN] []),qe (.store 6 (.sl 4) (.sl 105)),qc 5 (.bool false)]
 .ret)))}
def F218:CFn:={nt:=22,nk:=1,own:=false,res:=[.tmp 2],body:=(
 qr [qc 2 (.int .u8 0)]
 (.seq (qr [qm 3 0,qo 4 (.nck (.sl 3)),qf 5 1 4,ql 6 1 false 5,qm 7 0,qo 8 (.nck (.sl 7)),qf 9 0 8,ql 10 1 false 9,qo 11 (.slen (.sl 10)),qb 12 .lss 6 11]
 (qd 12 (qr [qm 13 0,qo 14 (.nck (.sl 13)),qf 15 0 14,ql 16 1 false 15,qm 17 0,qo 18 (.nck (.sl 17)),qf 19 1 18,ql 20 1 false 19,qo 21 (.sidx (.sl 16) (.sl 20)),qm 2 21]
 .ret) .skip))
 (qr [qc 2 (.int .u8 0)]
 .ret)))}
def F219:CFn:={nt:=79,nk:=1,own:=false,res:=[.tmp 2,.tmp 3],body:=(
 qr [qc 2 (.str ⟨#[]⟩),qc 3 (.bool false)]
 (.seq (qr [qm 6 0,qo 7 (.call 226 [(.sl 6),(.k (.str ⟨#[34]⟩))] []),qo 8 (.un .not (.sl 7))]
 (qd 8 (qr [qc 2 (.str ⟨#[]⟩),qc 3 (.bool false)]
 .ret) .skip))
 (qr [qc 4 qN]
 (.seq (.block 0 (.loop (.seq (qr [qm 9 0,qo 10 (.nck (.sl 9)),qf 11 1 10,ql 12 1 false 11,qm 13 0,qo 14 (.nck (.sl 13)),qf 15 0 14,ql 16 1 false 15,qo 17 (.slen (.sl 16)),qb 18 .lss 12 17]
 (qd 18 .skip (.exit 0)))
 (.block 1 (qr [qm 19 0,qo 20 (.nck (.sl 19)),qf 21 0 20,ql 22 1 false 21,qm 23 0,qo 24 (.nck (.sl 23)),qf 25 1 24,ql 26 1 false 25,qo 27 (.sidx (.sl 22) (.sl 26)),qm 5 27]
 (qr [qm 28 0,qo 29 (.nck (.sl 28)),qf 30 1 29,ql 31 1 false 30,qk 32 .add 31 1,qo 33 (.nck (.sl 28)),qf 34 1 33,qe (.store 1 (.sl 34) (.sl 32))]
 (.block 2 (qr [qm 40 5,qo 41 (.bin .eql (.sl 40) (.k (.int .u8 34))),qm 39 41]
 (qd 39 (qr [qm 42 4,qo 43 (.b2s (.sl 42)),qm 2 43,qc 3 (.bool true)]
 .ret) (qr [qm 45 5,qo 46 (.bin .eql (.sl 45) (.k (.int .u8 92))),qm 44 46]
 (qd 44 (.seq (qr [qm 47 0,qo 48 (.call 218 [.sl 47] [])]
 (.block 3 (.seq (qr [qo 50 (.bin .eql (.sl 48) (.k (.int .u8 34))),qm 49 50]
 (qd 49 .skip (.reg [qo 51 (.bin .eql (.sl 48) (.k (.int .u8 92))),qm 49 51] [])))
 (qd 49 (.reg [qm 52 4,qm 53 0,qo 54 (.nck (.sl 53)),qf 55 0 54,ql 56 1 false 55,qm 57 0,qo 58 (.nck (.sl 57)),qf 59 1 58,ql 60 1 false 59,qo 61 (.sidx (.sl 56) (.sl 60)),qo 62 (.bsl 5 1 [(.int .u8 0)] 1 [(0,1,(.sl 61))]),qo 63 (.app 5 1 1 (.sl 52) (.sl 62)),qm 4 63] []) (qr [qo 65 (.bin .eql (.sl 48) (.k (.int .u8 110))),qm 64 65]
 (qd 64 (.reg [qm 66 4,qo 67 (.bsl 5 1 [(.int .u8 0)] 1 [(0,1,(.k (.int .u8 10)))]),qo 68 (.app 5 1 1 (.sl 66) (.sl 67)),qm 4 68] []) (qr [qc 2 (.str ⟨#[]⟩),qc 3 (.bool false)]
 .ret)))))))
 (.reg [qm 69 0,qo 70 (.nck (.sl 69)),qf 71 1 70,ql 72 1 false 71,qk 73 .add 72 1,qo 74 (.nck (.sl 69)),qf 75 1 74,qe (.store 1 (.sl 75) (.sl 73))] [])) (qr [qm 77 5,qo 78 (.bin .lss (.sl 77) (.k (.int .u8 32))),qm 76 78]
 (qd 76 (qr [qc 2 (.str ⟨#[]⟩),qc 3 (.bool false)]
 .ret) (.reg [qm 35 4,qm 36 5,qo 37 (.bsl 5 1 [(.int .u8 0)] 1 [(0,1,(.sl 36))]),qo 38 (.app 5 1 1 (.sl 35) (.sl 37)),qm 4 38] []))))))))))))))
 (qr [qc 2 (.str ⟨#[]⟩),qc 3 (.bool false)]
 .ret)))))}
def F220:CFn:={nt:=117,nk:=1,own:=false,res:=[.tmp 2,.tmp 3],body:=(
 qr [qi 2 0,qc 3 (.bool false)]
 (.seq (qr [qm 9 0,qo 10 (.nck (.sl 9)),qf 11 0 10,ql 12 1 false 11,qo 13 (.slen (.sl 12)),qm 14 0,qo 15 (.nck (.sl 14)),qf 16 1 15,ql 17 1 false 16,qb 18 .sub 13 17,qk 19 .lss 18 11,qm 20 19,⟨(some (20,false)),(some 21),.mv (.sl 0)⟩,⟨(some (20,false)),(some 22),.nck (.sl 21)⟩,⟨(some (20,false)),(some 23),.fad 0 (.sl 22)⟩,⟨(some (20,false)),(some 24),.load 1 false (.sl 23)⟩,⟨(some (20,false)),(some 25),.mv (.sl 0)⟩,⟨(some (20,false)),(some 26),.nck (.sl 25)⟩,⟨(some (20,false)),(some 27),.fad 1 (.sl 26)⟩,⟨(some (20,false)),(some 28),.load 1 false (.sl 27)⟩,⟨(some (20,false)),(some 29),.sidx (.sl 24) (.sl 28)⟩,⟨(some (20,false)),(some 30),.bin .neq (.sl 29) (.k (.int .u8 64))⟩,qo 31 (.pick (.sl 20) (.k (.bool true)) (.sl 30)),qm 32 31,⟨(some (32,false)),(some 33),.mv (.sl 0)⟩,⟨(some (32,false)),(some 34),.nck (.sl 33)⟩,⟨(some (32,false)),(some 35),.fad 0 (.sl 34)⟩,⟨(some (32,false)),(some 36),.load 1 false (.sl 35)⟩,⟨(some (32,false)),(some 37),.mv (.sl 0)⟩,⟨(some (32,false)),(some 38),.nck (.sl 37)⟩,⟨(some (32,false)),(some 39),.fad 1 (.sl 38)⟩,⟨(some (32,false)),(some 40),.load 1 false (.sl 39)⟩,⟨(some (32,false)),(some 41),.bin .add (.sl 40) (.k (.int .i64 5))⟩,⟨(some (32,false)),(some 42),.sidx (.sl 36) (.sl 41)⟩,⟨(some (32,false)),(some 43),.bin .neq (.sl 42) (.k (.int .u8 45))⟩,qo 44 (.pick (.sl 32) (.k (.bool true)) (.sl 43)),qm 45 44,⟨(some (45,false)),(some 46),.mv (.sl 0)⟩,⟨(some (45,false)),(some 47),.nck (.sl 46)⟩,⟨(some (45,false)),(some 48),.fad 0 (.sl 47)⟩,⟨(some (45,false)),(some 49),.load 1 false (.sl 48)⟩,⟨(some (45,false)),(some 50),.mv (.sl 0)⟩,⟨(some (45,false)),(some 51),.nck (.sl 50)⟩,⟨(some (45,false)),(some 52),.fad 1 (.sl 51)⟩,⟨(some (45,false)),(some 53),.load 1 false (.sl 52)⟩,⟨(some (45,false)),(some 54),.bin .add (.sl 53) (.k (.int .i64 8))⟩,⟨(some (45,false)),(some 55),.sidx (.sl 49) (.sl 54)⟩,⟨(some (45,false)),(some 56),.bin .neq (.sl 55) (.k (.int .u8 45))⟩,qo 57 (.pick (.sl 45) (.k (.bool true)) (.sl 56))]
 (qd 57 (qr [qi 2 0,qc 3 (.bool false)]
 .ret) .skip))
 (qr [qm 58 0,qo 59 (.nck (.sl 58)),qf 60 0 59,ql 61 1 false 60,qm 62 0,qo 63 (.nck (.sl 62)),qf 64 1 63,ql 65 1 false 64,qk 66 .add 65 1,qm 67 0,qo 68 (.nck (.sl 67)),qf 69 1 68,ql 70 1 false 69,qk 71 .add 70 11,qo 72 (.ssl (.sl 61) (some (.sl 66)) (some (.sl 71))),qm 4 72]
 (qr [qm 73 0,qo 74 (.nck (.sl 73)),qf 75 1 74,ql 76 1 false 75,qk 77 .add 76 11,qo 78 (.nck (.sl 73)),qf 79 1 78,qe (.store 1 (.sl 79) (.sl 77))]
 (qr [qc 5 (.fn 236 [])]
 (qr [qm 80 5,qm 81 4,qo 82 (.ssl (.sl 81) none (some (.k (.int .i64 4)))),qo 83 (.cval (.sl 80) [.sl 82]),qm 84 5,qm 85 4,qo 86 (.ssl (.sl 85) (some (.k (.int .i64 5))) (some (.k (.int .i64 7)))),qo 87 (.cval (.sl 84) [.sl 86]),qm 88 5,qm 89 4,qo 90 (.ssl (.sl 89) (some (.k (.int .i64 8))) none),qo 91 (.cval (.sl 88) [.sl 90]),qm 6 83,qm 7 87,qm 8 91]
 (.seq (qr [qm 92 6,qk 93 .lss 92 1,qm 94 93,⟨(some (94,false)),(some 95),.mv (.sl 7)⟩,⟨(some (94,false)),(some 96),.bin .lss (.sl 95) (.k (.int .i64 1))⟩,qo 97 (.pick (.sl 94) (.k (.bool true)) (.sl 96)),qm 98 97,⟨(some (98,false)),(some 99),.mv (.sl 7)⟩,⟨(some (98,false)),(some 100),.bin .gtr (.sl 99) (.k (.int .i64 12))⟩,qo 101 (.pick (.sl 98) (.k (.bool true)) (.sl 100)),qm 102 101,⟨(some (102,false)),(some 103),.mv (.sl 8)⟩,⟨(some (102,false)),(some 104),.bin .lss (.sl 103) (.k (.int .i64 1))⟩,qo 105 (.pick (.sl 102) (.k (.bool true)) (.sl 104)),qm 106 105,⟨(some (106,false)),(some 107),.mv (.sl 8)⟩,⟨(some (106,false)),(some 108),.mv (.sl 6)⟩,⟨(some (106,false)),(some 109),.mv (.sl 7)⟩,⟨(some (106,false)),(some 110),.call 237 [(.sl 108),(.sl 109)] []⟩,⟨(some (106,false)),(some 111),.bin .gtr (.sl 107) (.sl 110)⟩,qo 112 (.pick (.sl 106) (.k (.bool true)) (.sl 111))]
 (qd 112 (qr [qi 2 0,qc 3 (.bool false)]
 .ret) .skip))
 (qr [qm 113 6,qm 114 7,qm 115 8,qo 116 (.call 238 [(.sl 113),(.sl 114),(.sl 115)] []),qm 2 116,qc 3 (.bool true)]
 .ret))))))))}
def F221:CFn:={nt:=75,nk:=1,own:=false,res:=[.tmp 2,.tmp 3],body:=(
 qr [qi 2 0,qc 3 (.bool false)]
 (qr [qm 8 0,qo 9 (.nck (.sl 8)),qf 10 1 9,ql 11 1 false 10,qm 4 11]
 (.seq (qr [qm 12 0,qo 13 (.call 218 [.sl 12] []),qo 14 (.bin .eql (.sl 13) (.k (.int .u8 45)))]
 (qd 14 (.reg [qm 15 0,qo 16 (.nck (.sl 15)),qf 17 1 16,ql 18 1 false 17,qk 19 .add 18 1,qo 20 (.nck (.sl 15)),qf 21 1 20,qe (.store 1 (.sl 21) (.sl 19))] []) .skip))
 (.seq (.block 0 (.loop (.seq (qr [qm 22 0,qo 23 (.nck (.sl 22)),qf 24 1 23,ql 25 1 false 24,qm 26 0,qo 27 (.nck (.sl 26)),qf 28 0 27,ql 29 1 false 28,qo 30 (.slen (.sl 29)),qb 31 .lss 25 30,qm 32 31,⟨(some (32,true)),(some 33),.mv (.sl 0)⟩,⟨(some (32,true)),(some 34),.nck (.sl 33)⟩,⟨(some (32,true)),(some 35),.fad 0 (.sl 34)⟩,⟨(some (32,true)),(some 36),.load 1 false (.sl 35)⟩,⟨(some (32,true)),(some 37),.mv (.sl 0)⟩,⟨(some (32,true)),(some 38),.nck (.sl 37)⟩,⟨(some (32,true)),(some 39),.fad 1 (.sl 38)⟩,⟨(some (32,true)),(some 40),.load 1 false (.sl 39)⟩,⟨(some (32,true)),(some 41),.sidx (.sl 36) (.sl 40)⟩,⟨(some (32,true)),(some 42),.call 173 [.sl 41] []⟩,qo 43 (.pick (.sl 32) (.sl 42) (.k (.bool false)))]
 (qd 43 .skip (.exit 0)))
 (.block 1 (.reg [qm 44 0,qo 45 (.nck (.sl 44)),qf 46 1 45,ql 47 1 false 46,qk 48 .add 47 1,qo 49 (.nck (.sl 44)),qf 50 1 49,qe (.store 1 (.sl 50) (.sl 48))] [])))))
 (qr [qm 51 0,qo 52 (.nck (.sl 51)),qf 53 0 52,ql 54 1 false 53,qm 55 4,qm 56 0,qo 57 (.nck (.sl 56)),qf 58 1 57,ql 59 1 false 58,qo 60 (.ssl (.sl 54) (some (.sl 55)) (some (.sl 59))),qm 5 60]
 (qr [qm 62 5,qo 63 (.call 239 [(.sl 62),(.k (.int .i64 10)),(.k (.int .i64 64))] []),qm 61 63,qo 64 (.ext (.sl 61) 0),qo 65 (.ext (.sl 61) 1),qm 6 64,qm 7 65]
 (.seq (qr [qm 66 7,qo 67 (.isnil true (.sl 66)),qm 68 67,⟨(some (68,false)),(some 69),.mv (.sl 6)⟩,⟨(some (68,false)),(some 70),.call 135 [(.sl 69),(.k (.int .i64 10))] []⟩,⟨(some (68,false)),(some 71),.mv (.sl 5)⟩,⟨(some (68,false)),(some 72),.bin .neq (.sl 70) (.sl 71)⟩,qo 73 (.pick (.sl 68) (.k (.bool true)) (.sl 72))]
 (qd 73 (qr [qi 2 0,qc 3 (.bool false)]
 .ret) .skip))
 (qr [qm 74 6,qm 2 74,qc 3 (.bool true)]
 .ret))))))))}
def F222:CFn:={nt:=59,nk:=1,own:=false,res:=[.cell 2 6 true,.tmp 3],body:=(
 qr [qo 2 (.alloc [(.int .i64 0),(.int .i64 0),(.int .i64 0),(.str ⟨#[]⟩),qN,qN]),qc 3 (.bool false)]
 (.seq (qr [qm 9 0,qo 10 (.call 226 [(.sl 9),(.k (.str ⟨#[40]⟩))] []),qo 11 (.un .not (.sl 10))]
 (qd 11 (qr [qo 12 (.build [(.int .i64 0),(.int .i64 0),(.int .i64 0),(.str ⟨#[]⟩),qN,qN] []),qe (.store 6 (.sl 2) (.sl 12)),qc 3 (.bool false)]
 .ret) .skip))
 (qr [qm 14 0,qo 15 (.call 221 [.sl 14] []),qm 13 15,qo 16 (.ext (.sl 13) 0),qo 17 (.ext (.sl 13) 1),qm 4 16,qm 5 17]
 (qr [qm 18 0,qo 19 (.call 226 [(.sl 18),(.k (.str ⟨#[32]⟩))] []),qm 6 19]
 (.seq (qr [qm 20 5,qo 21 (.un .not (.sl 20)),qm 22 21,⟨(some (22,false)),(some 23),.mv (.sl 6)⟩,⟨(some (22,false)),(some 24),.un .not (.sl 23)⟩,qo 25 (.pick (.sl 22) (.k (.bool true)) (.sl 24))]
 (qd 25 (qr [qo 26 (.build [(.int .i64 0),(.int .i64 0),(.int .i64 0),(.str ⟨#[]⟩),qN,qN] []),qe (.store 6 (.sl 2) (.sl 26)),qc 3 (.bool false)]
 .ret) .skip))
 (qr [qm 28 0,qo 29 (.call 221 [.sl 28] []),qm 27 29,qo 30 (.ext (.sl 27) 0),qo 31 (.ext (.sl 27) 1),qm 7 30,qm 8 31]
 (.seq (qr [qm 32 8,qo 33 (.un .not (.sl 32)),qm 34 33,⟨(some (34,false)),(some 35),.mv (.sl 0)⟩,⟨(some (34,false)),(some 36),.call 226 [(.sl 35),(.k (.str ⟨#[41]⟩))] []⟩,⟨(some (34,false)),(some 37),.un .not (.sl 36)⟩,qo 38 (.pick (.sl 34) (.k (.bool true)) (.sl 37)),qm 39 38,⟨(some (39,false)),(some 40),.mv (.sl 4)⟩,⟨(some (39,false)),(some 41),.bin .lss (.sl 40) (.k (.int .i64 (-1000000)))⟩,qo 42 (.pick (.sl 39) (.k (.bool true)) (.sl 41)),qm 43 42,⟨(some (43,false)),(some 44),.mv (.sl 4)⟩,⟨(some (43,false)),(some 45),.bin .gtr (.sl 44) (.k (.int .i64 1000000))⟩,qo 46 (.pick (.sl 43) (.k (.bool true)) (.sl 45)),qm 47 46,⟨(some (47,false)),(some 48),.mv (.sl 7)⟩,⟨(some (47,false)),(some 49),.bin .lss (.sl 48) (.k (.int .i64 (-1000000)))⟩,qo 50 (.pick (.sl 47) (.k (.bool true)) (.sl 49)),qm 51 50,⟨(some (51,false)),(some 52),.mv (.sl 7)⟩,⟨(some (51,false)),(some 53),.bin .gtr (.sl 52) (.k (.int .i64 1000000))⟩,qo 54 (.pick (.sl 51) (.k (.bool true)) (.sl 53))]
 (qd 54 (qr [qo 55 (.build [(.int .i64 0),(.int .i64 0),(.int .i64 0),(.str ⟨#[]⟩),qN,qN] []),qe (.store 6 (.sl 2) (.sl 55)),qc 3 (.bool false)]
 .ret) .skip))
 (qr [qm 56 4,qm 57 7,qo 58 (.build [(.int .i64 0),(.int .i64 0),(.int .i64 0),(.str ⟨#[]⟩),qN,qN] [(0,1,(.k (.int .i64 5))),(1,1,(.sl 56)),(2,1,(.sl 57))]),qe (.store 6 (.sl 2) (.sl 58)),qc 3 (.bool true)]
 .ret))))))))}
def F223:CFn:={nt:=44,nk:=1,own:=false,res:=[.cell 4 6 true,.tmp 5],body:=(
 qr [qo 4 (.alloc [(.int .i64 0),(.int .i64 0),(.int .i64 0),(.str ⟨#[]⟩),qN,qN]),qc 5 (.bool false)]
 (qr [qo 9 (.build [(.int .i64 0),(.int .i64 0),(.int .i64 0),(.str ⟨#[]⟩),qN,qN] [(0,1,(.k (.int .i64 6)))]),qo 6 (.alloc [(.int .i64 0),(.int .i64 0),(.int .i64 0),(.str ⟨#[]⟩),qN,qN]),qe (.store 6 (.sl 6) (.sl 9))]
 (.seq (qr [qm 10 0,qo 11 (.call 226 [(.sl 10),(.k (.str ⟨#[91]⟩))] []),qo 12 (.un .not (.sl 11)),qm 13 12,⟨(some (13,false)),(some 14),.mv (.sl 1)⟩,⟨(some (13,false)),(some 15),.bin .eql (.sl 14) (.k (.int .i64 5))⟩,qo 16 (.pick (.sl 13) (.k (.bool true)) (.sl 15))]
 (qd 16 (qr [ql 17 6 true 6,qe (.store 6 (.sl 4) (.sl 17)),qc 5 (.bool false)]
 .ret) .skip))
 (.seq (qr [qm 18 0,qo 19 (.call 226 [(.sl 18),(.k (.str ⟨#[93]⟩))] [])]
 (qd 19 (qr [ql 20 6 true 6,qe (.store 6 (.sl 4) (.sl 20)),qc 5 (.bool true)]
 .ret) .skip))
 (.block 0 (.loop (.block 1 (qr [qm 22 0,qm 23 1,qk 24 .add 23 1,qo 25 (.call 201 [(.sl 22),(.sl 24)] []),qm 21 25,qo 26 (.ext (.sl 21) 0),qo 27 (.ext (.sl 21) 1),qo 7 (.alloc [(.int .i64 0),(.int .i64 0),(.int .i64 0),(.str ⟨#[]⟩),qN,qN]),qe (.store 6 (.sl 7) (.sl 26)),qm 8 27]
 (.seq (qr [qm 28 8,qo 29 (.un .not (.sl 28))]
 (qd 29 (qr [ql 30 6 true 6,qe (.store 6 (.sl 4) (.sl 30)),qc 5 (.bool false)]
 .ret) .skip))
 (qr [qf 31 5 6,ql 32 1 false 31,ql 33 6 true 7,qo 34 (.bsl 204 6 [(.int .i64 0),(.int .i64 0),(.int .i64 0),(.str ⟨#[]⟩),qN,qN] 1 [(0,6,(.sl 33))]),qo 35 (.app 204 6 88 (.sl 32) (.sl 34)),qf 36 5 6,qe (.store 1 (.sl 36) (.sl 35))]
 (.seq (qr [qm 37 0,qo 38 (.call 226 [(.sl 37),(.k (.str ⟨#[93]⟩))] [])]
 (qd 38 (qr [ql 39 6 true 6,qe (.store 6 (.sl 4) (.sl 39)),qc 5 (.bool true)]
 .ret) .skip))
 (qr [qm 40 0,qo 41 (.call 226 [(.sl 40),(.k (.str ⟨#[44]⟩))] []),qo 42 (.un .not (.sl 41))]
 (qd 42 (qr [ql 43 6 true 6,qe (.store 6 (.sl 4) (.sl 43)),qc 5 (.bool false)]
 .ret) .skip)))))))))))))}
def F224:CFn:={nt:=82,nk:=1,own:=false,res:=[.cell 4 6 true,.tmp 5],body:=(
 qr [qo 4 (.alloc [(.int .i64 0),(.int .i64 0),(.int .i64 0),(.str ⟨#[]⟩),qN,qN]),qc 5 (.bool false)]
 (qr [qo 10 (.build [(.int .i64 0),(.int .i64 0),(.int .i64 0),(.str ⟨#[]⟩),qN,qN] [(0,1,(.k (.int .i64 7)))]),qo 6 (.alloc [(.int .i64 0),(.int .i64 0),(.int .i64 0),(.str ⟨#[]⟩),qN,qN]),qe (.store 6 (.sl 6) (.sl 10))]
 (.seq (qr [qm 11 0,qo 12 (.call 226 [(.sl 11),(.k (.str ⟨#[123]⟩))] []),qo 13 (.un .not (.sl 12)),qm 14 13,⟨(some (14,false)),(some 15),.mv (.sl 1)⟩,⟨(some (14,false)),(some 16),.bin .eql (.sl 15) (.k (.int .i64 5))⟩,qo 17 (.pick (.sl 14) (.k (.bool true)) (.sl 16))]
 (qd 17 (qr [ql 18 6 true 6,qe (.store 6 (.sl 4) (.sl 18)),qc 5 (.bool false)]
 .ret) .skip))
 (.seq (qr [qm 19 0,qo 20 (.call 226 [(.sl 19),(.k (.str ⟨#[125]⟩))] [])]
 (qd 20 (qr [ql 21 6 true 6,qe (.store 6 (.sl 4) (.sl 21)),qc 5 (.bool true)]
 .ret) .skip))
 (.block 0 (.loop (.block 1 (qr [qm 23 0,qo 24 (.call 240 [.sl 23] []),qm 22 24,qo 25 (.ext (.sl 22) 0),qo 26 (.ext (.sl 22) 1),qm 7 25,qm 8 26]
 (.seq (qr [qm 27 8,qo 28 (.un .not (.sl 27)),qm 29 28,⟨(some (29,false)),(some 30),.mv (.sl 0)⟩,⟨(some (29,false)),(some 31),.call 226 [(.sl 30),(.k (.str ⟨#[58]⟩))] []⟩,⟨(some (29,false)),(some 32),.un .not (.sl 31)⟩,qo 33 (.pick (.sl 29) (.k (.bool true)) (.sl 32)),qm 34 33,⟨(some (34,false)),(some 35),.fad 4 (.sl 6)⟩,⟨(some (34,false)),(some 36),.load 1 false (.sl 35)⟩,⟨(some (34,false)),(some 37),.len (.sl 36)⟩,⟨(some (34,false)),(some 38),.bin .gtr (.sl 37) (.k (.int .i64 0))⟩,⟨(some (34,false)),(some 39),.mv (.sl 38)⟩,⟨(some (39,true)),(some 40),.fad 4 (.sl 6)⟩,⟨(some (39,true)),(some 41),.load 1 false (.sl 40)⟩,⟨(some (39,true)),(some 42),.fad 4 (.sl 6)⟩,⟨(some (39,true)),(some 43),.load 1 false (.sl 42)⟩,⟨(some (39,true)),(some 44),.len (.sl 43)⟩,⟨(some (39,true)),(some 45),.bin .sub (.sl 44) (.k (.int .i64 1))⟩,⟨(some (39,true)),(some 46),.iad 1 (.sl 41) (.sl 45)⟩,⟨(some (39,true)),(some 47),.load 1 false (.sl 46)⟩,⟨(some (39,true)),(some 48),.mv (.sl 7)⟩,⟨(some (39,true)),(some 49),.bin .geq (.sl 47) (.sl 48)⟩,⟨(some (34,false)),(some 50),.pick (.sl 39) (.sl 49) (.k (.bool false))⟩,qo 51 (.pick (.sl 34) (.k (.bool true)) (.sl 50))]
 (qd 51 (qr [ql 52 6 true 6,qe (.store 6 (.sl 4) (.sl 52)),qc 5 (.bool false)]
 .ret) .skip))
 (qr [qm 54 0,qm 55 1,qk 56 .add 55 1,qo 57 (.call 201 [(.sl 54),(.sl 56)] []),qm 53 57,qo 58 (.ext (.sl 53) 0),qo 59 (.ext (.sl 53) 1),qo 9 (.alloc [(.int .i64 0),(.int .i64 0),(.int .i64 0),(.str ⟨#[]⟩),qN,qN]),qe (.store 6 (.sl 9) (.sl 58)),qm 8 59]
 (.seq (qr [qm 60 8,qo 61 (.un .not (.sl 60))]
 (qd 61 (qr [ql 62 6 true 6,qe (.store 6 (.sl 4) (.sl 62)),qc 5 (.bool false)]
 .ret) .skip))
 (qr [qf 63 4 6,ql 64 1 false 63,qm 65 7,qo 66 (.bsl 9 1 [(.str ⟨#[]⟩)] 1 [(0,1,(.sl 65))]),qo 67 (.app 9 1 16 (.sl 64) (.sl 66)),qf 68 4 6,qe (.store 1 (.sl 68) (.sl 67))]
 (qr [qf 69 5 6,ql 70 1 false 69,ql 71 6 true 9,qo 72 (.bsl 204 6 [(.int .i64 0),(.int .i64 0),(.int .i64 0),(.str ⟨#[]⟩),qN,qN] 1 [(0,6,(.sl 71))]),qo 73 (.app 204 6 88 (.sl 70) (.sl 72)),qf 74 5 6,qe (.store 1 (.sl 74) (.sl 73))]
 (.seq (qr [qm 75 0,qo 76 (.call 226 [(.sl 75),(.k (.str ⟨#[125]⟩))] [])]
 (qd 76 (qr [ql 77 6 true 6,qe (.store 6 (.sl 4) (.sl 77)),qc 5 (.bool true)]
 .ret) .skip))
 (qr [qm 78 0,qo 79 (.call 226 [(.sl 78),(.k (.str ⟨#[44]⟩))] []),qo 80 (.un .not (.sl 79))]
 (qd 80 (qr [ql 81 6 true 6,qe (.store 6 (.sl 4) (.sl 81)),qc 5 (.bool false)]
 .ret) .skip))))))))))))))))}
def F225:CFn:={nt:=46,nk:=1,own:=false,res:=[.cell 2 6 true,.tmp 3],body:=(
 qr [qo 2 (.alloc [(.int .i64 0),(.int .i64 0),(.int .i64 0),(.str ⟨#[]⟩),qN,qN]),qc 3 (.bool false)]
 (qr [qo 8 (.build [(.int .i64 0),(.int .i64 0),(.int .i64 0),(.str ⟨#[]⟩),qN,qN] [(0,1,(.k (.int .i64 10)))]),qo 4 (.alloc [(.int .i64 0),(.int .i64 0),(.int .i64 0),(.str ⟨#[]⟩),qN,qN]),qe (.store 6 (.sl 4) (.sl 8))]
 (.seq (qr [qm 9 0,qo 10 (.call 226 [(.sl 9),(.k (.str ⟨#[60]⟩))] []),qo 11 (.un .not (.sl 10))]
 (qd 11 (qr [ql 12 6 true 4,qe (.store 6 (.sl 2) (.sl 12)),qc 3 (.bool false)]
 .ret) .skip))
 (qr [qi 5 8]
 (.block 0 (.loop (.block 1 (qr [qm 14 0,qo 15 (.call 227 [.sl 14] []),qm 13 15,qo 16 (.ext (.sl 13) 0),qo 17 (.ext (.sl 13) 1),qo 6 (.alloc [(.int .i64 0),(.int .i64 0),(.int .i64 0),(.str ⟨#[]⟩),qN,qN]),qe (.store 6 (.sl 6) (.sl 16)),qm 7 17]
 (.seq (qr [qm 18 7,qo 19 (.un .not (.sl 18)),qm 20 19,⟨(some (20,false)),(some 21),.fad 0 (.sl 6)⟩,⟨(some (20,false)),(some 22),.load 1 false (.sl 21)⟩,⟨(some (20,false)),(some 23),.mv (.sl 5)⟩,⟨(some (20,false)),(some 24),.bin .neq (.sl 22) (.sl 23)⟩,qo 25 (.pick (.sl 20) (.k (.bool true)) (.sl 24))]
 (qd 25 (qr [ql 26 6 true 4,qe (.store 6 (.sl 2) (.sl 26)),qc 3 (.bool false)]
 .ret) .skip))
 (qr [qf 27 5 4,ql 28 1 false 27,ql 29 6 true 6,qo 30 (.bsl 204 6 [(.int .i64 0),(.int .i64 0),(.int .i64 0),(.str ⟨#[]⟩),qN,qN] 1 [(0,6,(.sl 29))]),qo 31 (.app 204 6 88 (.sl 28) (.sl 30)),qf 32 5 4,qe (.store 1 (.sl 32) (.sl 31))]
 (.seq (qr [qm 33 5,qk 34 .eql 33 8,qm 35 34,⟨(some (35,true)),(some 36),.mv (.sl 0)⟩,⟨(some (35,true)),(some 37),.call 226 [(.sl 36),(.k (.str ⟨#[62]⟩))] []⟩,qo 38 (.pick (.sl 35) (.sl 37) (.k (.bool false)))]
 (qd 38 (qr [ql 39 6 true 4,qe (.store 6 (.sl 2) (.sl 39)),qc 3 (.bool true)]
 .ret) .skip))
 (.seq (qr [qm 40 0,qo 41 (.call 226 [(.sl 40),(.k (.str ⟨#[32]⟩))] []),qo 42 (.un .not (.sl 41))]
 (qd 42 (qr [ql 43 6 true 4,qe (.store 6 (.sl 2) (.sl 43)),qc 3 (.bool false)]
 .ret) .skip))
 (.reg [qm 44 5,qo 45 (.bin .sub (.k (.int .i64 17)) (.sl 44)),qm 5 45] [])))))))))))))}
def F226:CFn:={nt:=25,nk:=1,own:=false,res:=[.tmp 4],body:=(
 qr [qc 4 (.bool false)]
 (.seq (qr [qm 5 0,qo 6 (.nck (.sl 5)),qf 7 0 6,ql 8 1 false 7,qm 9 0,qo 10 (.nck (.sl 9)),qf 11 1 10,ql 12 1 false 11,qo 13 (.ssl (.sl 8) (some (.sl 12)) none),qm 14 1,qo 15 (.call 241 [(.sl 13),(.sl 14)] [])]
 (qd 15 (qr [qm 16 0,qo 17 (.nck (.sl 16)),qf 18 1 17,ql 19 1 false 18,qm 20 1,qo 21 (.slen (.sl 20)),qb 22 .add 19 21,qo 23 (.nck (.sl 16)),qf 24 1 23,qe (.store 1 (.sl 24) (.sl 22))]
 (qr [qc 4 (.bool true)]
 .ret)) .skip))
 (qr [qc 4 (.bool false)]
 .ret)))}
def F227:CFn:={nt:=30,nk:=1,own:=false,res:=[.cell 2 6 true,.tmp 3],body:=(
 qr [qo 2 (.alloc [(.int .i64 0),(.int .i64 0),(.int .i64 0),(.str ⟨#[]⟩),qN,qN]),qc 3 (.bool false)]
 (qr [qi 4 8]
 (.seq (qr [qm 7 0,qo 8 (.call 218 [.sl 7] []),qo 9 (.bin .eql (.sl 8) (.k (.int .u8 101)))]
 (qd 9 (.reg [qi 4 9] []) (qr [qm 10 0,qo 11 (.call 218 [.sl 10] []),qo 12 (.bin .neq (.sl 11) (.k (.int .u8 110)))]
 (qd 12 (qr [qo 13 (.build [(.int .i64 0),(.int .i64 0),(.int .i64 0),(.str ⟨#[]⟩),qN,qN] []),qe (.store 6 (.sl 2) (.sl 13)),qc 3 (.bool false)]
 .ret) .skip))))
 (qr [qm 14 0,qo 15 (.nck (.sl 14)),qf 16 1 15,ql 17 1 false 16,qk 18 .add 17 1,qo 19 (.nck (.sl 14)),qf 20 1 19,qe (.store 1 (.sl 20) (.sl 18))]
 (qr [qm 22 0,qo 23 (.call 242 [.sl 22] []),qm 21 23,qo 24 (.ext (.sl 21) 0),qo 25 (.ext (.sl 21) 1),qm 5 24,qm 6 25]
 (qr [qm 26 4,qm 27 5,qo 28 (.build [(.int .i64 0),(.int .i64 0),(.int .i64 0),(.str ⟨#[]⟩),qN,qN] [(0,1,(.sl 26)),(1,1,(.sl 27))]),qm 29 6,qe (.store 6 (.sl 2) (.sl 28)),qm 3 29]
 .ret))))))}
def F236:CFn:={nt:=25,nk:=0,own:=false,res:=[.tmp 2],body:=(
 qr [qi 2 0]
 (qr [qi 3 0]
 (.seq (qr [qm 5 0,qo 6 (.slen (.sl 5)),qi 7 0]
 (.block 0 (.loop (qr [qb 8 .lss 7 6]
 (.seq (qd 8 .skip (.exit 0))
 (.seq (.block 1 (qr [qm 9 7,qm 4 9]
 (.seq (qr [qm 10 0,qm 11 4,qo 12 (.sidx (.sl 10) (.sl 11)),qo 13 (.call 173 [.sl 12] []),qo 14 (.un .not (.sl 13))]
 (qd 14 (qr [qi 2 (-1)]
 .ret) .skip))
 (.reg [qm 15 3,qk 16 .mul 15 10,qm 17 0,qm 18 4,qo 19 (.sidx (.sl 17) (.sl 18)),qo 20 (.bin .sub (.sl 19) (.k (.int .u8 48))),qo 21 (.toInt .i64 (.sl 20)),qb 22 .add 16 21,qm 3 22] []))))
 (.reg [qk 23 .add 7 1,qm 7 23] [])))))))
 (qr [qm 24 3,qm 2 24]
 .ret))))}
def F237:CFn:={nt:=15,nk:=0,own:=false,res:=[.tmp 4],body:=(
 qr [qi 4 0]
 (.seq (qr [qm 5 1]
 (.block 0 (qr [qk 7 .eql 5 2,qm 6 7]
 (qd 6 (.seq (qr [qm 8 0,qo 9 (.call 245 [.sl 8] [])]
 (qd 9 (qr [qi 4 29]
 .ret) .skip))
 (qr [qi 4 28]
 .ret)) (.seq (qr [qk 11 .eql 5 4,qm 10 11]
 (qd 10 .skip (qr [qk 12 .eql 5 6,qm 10 12]
 (qd 10 .skip (qr [qk 13 .eql 5 9,qm 10 13]
 (qd 10 .skip (.reg [qk 14 .eql 5 11,qm 10 14] [])))))))
 (qd 10 (qr [qi 4 30]
 .ret) .skip))))))
 (qr [qi 4 31]
 .ret)))}
def F238:CFn:={nt:=37,nk:=0,own:=false,res:=[.tmp 6],body:=(
 qr [qi 6 0]
 (qr [qm 10 0,qk 11 .sub 10 1,qm 7 11]
 (qr [qm 12 7,qk 13 .mul 12 365,qm 14 7,qk 15 .quo 14 4,qb 16 .add 13 15,qm 17 7,qk 18 .quo 17 100,qb 19 .sub 16 18,qm 20 7,qk 21 .quo 20 400,qb 22 .add 19 21,qm 8 22]
 (.seq (qr [qi 9 1]
 (.block 0 (.loop (.seq (qr [qm 23 9,qm 24 1,qb 25 .lss 23 24]
 (qd 25 .skip (.exit 0)))
 (.seq (.block 1 (.reg [qm 28 8,qm 29 0,qm 30 9,qo 31 (.call 237 [(.sl 29),(.sl 30)] []),qb 32 .add 28 31,qm 8 32] []))
 (.reg [qm 26 9,qk 27 .add 26 1,qm 9 27] []))))))
 (qr [qm 33 8,qm 34 2,qb 35 .add 33 34,qk 36 .sub 35 1,qm 6 36]
 .ret)))))}
def F240:CFn:={nt:=83,nk:=1,own:=false,res:=[.tmp 2,.tmp 3],body:=(
 qr [qc 2 (.str ⟨#[]⟩),qc 3 (.bool false)]
 (qr [qm 5 0,qo 6 (.nck (.sl 5)),qf 7 1 6,ql 8 1 false 7,qm 4 8]
 (.seq (.block 0 (.loop (.seq (qr [qm 9 0,qo 10 (.nck (.sl 9)),qf 11 1 10,ql 12 1 false 11,qm 13 0,qo 14 (.nck (.sl 13)),qf 15 0 14,ql 16 1 false 15,qo 17 (.slen (.sl 16)),qb 18 .lss 12 17,qm 19 18,⟨(some (19,true)),(some 20),.mv (.sl 0)⟩,⟨(some (19,true)),(some 21),.nck (.sl 20)⟩,⟨(some (19,true)),(some 22),.fad 0 (.sl 21)⟩,⟨(some (19,true)),(some 23),.load 1 false (.sl 22)⟩,⟨(some (19,true)),(some 24),.mv (.sl 0)⟩,⟨(some (19,true)),(some 25),.nck (.sl 24)⟩,⟨(some (19,true)),(some 26),.fad 1 (.sl 25)⟩,⟨(some (19,true)),(some 27),.load 1 false (.sl 26)⟩,⟨(some (19,true)),(some 28),.sidx (.sl 23) (.sl 27)⟩,⟨(some (19,true)),(some 29),.call 172 [.sl 28] []⟩,⟨(some (19,true)),(some 30),.mv (.sl 29)⟩,⟨(some (30,false)),(some 31),.mv (.sl 0)⟩,⟨(some (30,false)),(some 32),.nck (.sl 31)⟩,⟨(some (30,false)),(some 33),.fad 0 (.sl 32)⟩,⟨(some (30,false)),(some 34),.load 1 false (.sl 33)⟩,⟨(some (30,false)),(some 35),.mv (.sl 0)⟩,⟨(some (30,false)),(some 36),.nck (.sl 35)⟩,⟨(some (30,false)),(some 37),.fad 1 (.sl 36)⟩,⟨(some (30,false)),(some 38),.load 1 false (.sl 37)⟩,⟨(some (30,false)),(some 39),.sidx (.sl 34) (.sl 38)⟩,⟨(some (30,false)),(some 40),.call 173 [.sl 39] []⟩,⟨(some (19,true)),(some 41),.pick (.sl 30) (.k (.bool true)) (.sl 40)⟩,⟨(some (19,true)),(some 42),.mv (.sl 41)⟩,⟨(some (42,false)),(some 43),.mv (.sl 0)⟩,⟨(some (42,false)),(some 44),.nck (.sl 43)⟩,⟨(some (42,false)),(some 45),.fad 0 (.sl 44)⟩,⟨(some (42,false)),(some 46),.load 1 false (.sl 45)⟩,⟨(some (42,false)),(some 47),.mv (.sl 0)⟩,⟨(some (42,false)),(some 48),.nck (.sl 47)⟩,⟨(some (42,false)),(some 49),.fad 1 (.sl 48)⟩,⟨(some (42,false)),(some 50),.load 1 false (.sl 49)⟩,⟨(some (42,false)),(some 51),.sidx (.sl 46) (.sl 50)⟩,⟨(some (42,false)),(some 52),.bin .eql (.sl 51) (.k (.int .u8 95))⟩,⟨(some (19,true)),(some 53),.pick (.sl 42) (.k (.bool true)) (.sl 52)⟩,qo 54 (.pick (.sl 19) (.sl 53) (.k (.bool false)))]
 (qd 54 .skip (.exit 0)))
 (.block 1 (.reg [qm 55 0,qo 56 (.nck (.sl 55)),qf 57 1 56,ql 58 1 false 57,qk 59 .add 58 1,qo 60 (.nck (.sl 55)),qf 61 1 60,qe (.store 1 (.sl 61) (.sl 59))] [])))))
 (.seq (.reg [qm 62 0,qo 63 (.nck (.sl 62)),qf 64 0 63,ql 65 1 false 64,qm 66 4,qm 67 0,qo 68 (.nck (.sl 67)),qf 69 1 68,ql 70 1 false 69,qo 71 (.ssl (.sl 65) (some (.sl 66)) (some (.sl 70))),qm 72 0,qo 73 (.nck (.sl 72)),qf 74 0 73,ql 75 1 false 74,qm 76 4,qm 77 0,qo 78 (.nck (.sl 77)),qf 79 1 78,ql 80 1 false 79,qo 81 (.ssl (.sl 75) (some (.sl 76)) (some (.sl 80))),qo 82 (.call 127 [.sl 81] []),qm 2 71,qm 3 82] [(3,20),(8,20)])
 .ret))))}
def F241:CFn:={nt:=8,nk:=0,own:=false,res:=[.tmp 4],body:=(
 qr [qc 4 (.bool false)]
 (qr [qm 5 0,qm 6 1,qo 7 (.call 248 [(.sl 5),(.sl 6)] []),qm 4 7]
 .ret))}
def F242:CFn:={nt:=25,nk:=1,own:=false,res:=[.tmp 2,.tmp 3],body:=(
 qr [qi 2 0,qc 3 (.bool false)]
 (.seq (qr [qm 6 0,qo 7 (.call 218 [.sl 6] []),qo 8 (.call 173 [.sl 7] []),qo 9 (.un .not (.sl 8))]
 (qd 9 (qr [qi 2 0,qc 3 (.bool false)]
 .ret) .skip))
 (qr [qm 11 0,qo 12 (.call 221 [.sl 11] []),qm 10 12,qo 13 (.ext (.sl 10) 0),qo 14 (.ext (.sl 10) 1),qm 4 13,qm 5 14]
 (qr [qm 15 4,qm 16 5,qm 17 16,⟨(some (17,true)),(some 18),.mv (.sl 4)⟩,⟨(some (17,true)),(some 19),.bin .geq (.sl 18) (.k (.int .i64 1))⟩,qo 20 (.pick (.sl 17) (.sl 19) (.k (.bool false))),qm 21 20,⟨(some (21,true)),(some 22),.mv (.sl 4)⟩,⟨(some (21,true)),(some 23),.bin .leq (.sl 22) (.k (.int .i64 1000000000000))⟩,qo 24 (.pick (.sl 21) (.sl 23) (.k (.bool false))),qm 2 15,qm 3 24]
 .ret))))}
def F245:CFn:={nt:=16,nk:=0,own:=false,res:=[.tmp 2],body:=(
 qr [qc 2 (.bool false)]
 (qr [qm 3 0,qk 4 .rem 3 4,qk 5 .eql 4 0,qm 6 5,⟨(some (6,true)),(some 7),.mv (.sl 0)⟩,⟨(some (6,true)),(some 8),.bin .rem (.sl 7) (.k (.int .i64 100))⟩,⟨(some (6,true)),(some 9),.bin .neq (.sl 8) (.k (.int .i64 0))⟩,⟨(some (6,true)),(some 10),.mv (.sl 9)⟩,⟨(some (10,false)),(some 11),.mv (.sl 0)⟩,⟨(some (10,false)),(some 12),.bin .rem (.sl 11) (.k (.int .i64 400))⟩,⟨(some (10,false)),(some 13),.bin .eql (.sl 12) (.k (.int .i64 0))⟩,⟨(some (6,true)),(some 14),.pick (.sl 10) (.k (.bool true)) (.sl 13)⟩,qo 15 (.pick (.sl 6) (.sl 14) (.k (.bool false))),qm 2 15]
 .ret))}
def F248:CFn:={nt:=18,nk:=0,own:=false,res:=[.tmp 4],body:=(
 qr [qc 4 (.bool false)]
 (qr [qm 5 0,qo 6 (.slen (.sl 5)),qm 7 1,qo 8 (.slen (.sl 7)),qb 9 .geq 6 8,qm 10 9,⟨(some (10,true)),(some 11),.mv (.sl 0)⟩,⟨(some (10,true)),(some 12),.mv (.sl 1)⟩,⟨(some (10,true)),(some 13),.slen (.sl 12)⟩,⟨(some (10,true)),(some 14),.ssl (.sl 11) none (some (.sl 13))⟩,⟨(some (10,true)),(some 15),.mv (.sl 1)⟩,⟨(some (10,true)),(some 16),.bin .eql (.sl 14) (.sl 15)⟩,qo 17 (.pick (.sl 10) (.sl 16) (.k (.bool false))),qm 4 17]
 .ret))}
def FB50:CFn:={nt:=34,nk:=0,own:=true,res:=[.tmp 4,.tmp 0],body:=(
 qr [qi 4 0]
 (.seq (qr [qi 5 0]
 (.block 0 (.loop (.seq (qr [qm 6 5,qm 7 0,qo 8 (.len (.sl 7)),qb 9 .lss 6 8]
 (qd 9 .skip (.exit 0)))
 (.seq (.block 1 (qr [qm 12 0,qm 13 5,qm 14 1,qo 15 (.iad 3 (.sl 12) (.sl 13)),qf 16 0 15,qe (.stx 1 (.sl 16) (.sl 14))]
 (qr [qm 17 1,qk 18 .add 17 1,qm 1 18]
 (qr [qm 19 0,qm 20 5,qo 21 (.iad 3 (.sl 19) (.sl 20)),qf 22 1 21,ql 23 1 false 22,qm 24 1,qo 25 (.callU 57 [(.sl 23),(.sl 24)]),qm 1 25]
 (.reg [qm 26 0,qm 27 5,qo 28 (.iad 3 (.sl 26) (.sl 27)),qf 29 2 28,ql 30 1 false 29,qm 31 1,qo 32 (.callU 58 [(.sl 30),(.sl 31)]),qm 1 32] [])))))
 (.reg [qm 10 5,qk 11 .add 10 1,qm 5 11] []))))))
 (qr [qm 33 1,qm 4 33]
 .ret)))}
def FB51:CFn:={nt:=49,nk:=0,own:=true,res:=[.tmp 4,.tmp 0],body:=(
 qr [qi 4 0]
 (.seq (qr [qi 5 0]
 (.block 0 (.loop (.seq (qr [qm 6 5,qm 7 0,qo 8 (.len (.sl 7)),qb 9 .lss 6 8]
 (qd 9 .skip (.exit 0)))
 (.seq (.block 1 (qr [qm 12 0,qm 13 5,qm 14 1,qo 15 (.iad 5 (.sl 12) (.sl 13)),qf 16 0 15,qe (.stx 1 (.sl 16) (.sl 14))]
 (qr [qm 17 1,qk 18 .add 17 1,qm 1 18]
 (qr [qm 19 0,qm 20 5,qm 21 1,qo 22 (.call 59 [.sl 21] []),qo 23 (.iad 5 (.sl 19) (.sl 20)),qf 24 1 23,qe (.stx 1 (.sl 24) (.sl 22))]
 (qr [qm 25 1,qk 26 .add 25 1,qm 1 26]
 (qr [qm 27 0,qm 28 5,qm 29 1,qo 30 (.iad 5 (.sl 27) (.sl 28)),qf 31 2 30,qe (.stx 1 (.sl 31) (.sl 29))]
 (qr [qm 32 1,qk 33 .add 32 1,qm 1 33]
 (qr [qm 34 0,qm 35 5,qm 36 1,qo 37 (.iad 5 (.sl 34) (.sl 35)),qf 38 3 37,qe (.stx 1 (.sl 38) (.sl 36))]
 (qr [qm 39 1,qk 40 .add 39 1,qm 1 40]
 (.reg [qm 41 0,qm 42 5,qo 43 (.iad 5 (.sl 41) (.sl 42)),qf 44 4 43,ql 45 1 false 44,qm 46 1,qo 47 (.callU 58 [(.sl 45),(.sl 46)]),qm 1 47] []))))))))))
 (.reg [qm 10 5,qk 11 .add 10 1,qm 5 11] []))))))
 (qr [qm 48 1,qm 4 48]
 .ret)))}
def FB57:CFn:={nt:=20,nk:=0,own:=true,res:=[.tmp 4,.tmp 0],body:=(
 qr [qi 4 0]
 (.seq (qr [qi 5 0]
 (.block 0 (.loop (.seq (qr [qm 6 5,qm 7 0,qo 8 (.len (.sl 7)),qb 9 .lss 6 8]
 (qd 9 .skip (.exit 0)))
 (.seq (.block 1 (qr [qm 12 0,qm 13 5,qm 14 1,qo 15 (.call 59 [.sl 14] []),qo 16 (.iad 1 (.sl 12) (.sl 13)),qe (.stx 1 (.sl 16) (.sl 15))]
 (.reg [qm 17 1,qk 18 .add 17 1,qm 1 18] [])))
 (.reg [qm 10 5,qk 11 .add 10 1,qm 5 11] []))))))
 (qr [qm 19 1,qm 4 19]
 .ret)))}
def FB58:CFn:={nt:=29,nk:=0,own:=true,res:=[.tmp 4,.tmp 0],body:=(
 qr [qi 4 0]
 (.seq (qr [qi 5 0]
 (.block 0 (.loop (.seq (qr [qm 6 5,qm 7 0,qo 8 (.len (.sl 7)),qb 9 .lss 6 8]
 (qd 9 .skip (.exit 0)))
 (.seq (.block 1 (qr [qm 12 0,qm 13 5,qm 14 1,qo 15 (.call 59 [.sl 14] []),qo 16 (.iad 2 (.sl 12) (.sl 13)),qf 17 0 16,qe (.stx 1 (.sl 17) (.sl 15))]
 (qr [qm 18 1,qk 19 .add 18 1,qm 1 19]
 (qr [qm 20 0,qm 21 5,qm 22 1,qo 23 (.call 59 [.sl 22] []),qo 24 (.iad 2 (.sl 20) (.sl 21)),qf 25 1 24,qe (.stx 1 (.sl 25) (.sl 23))]
 (.reg [qm 26 1,qk 27 .add 26 1,qm 1 27] [])))))
 (.reg [qm 10 5,qk 11 .add 10 1,qm 5 11] []))))))
 (qr [qm 28 1,qm 4 28]
 .ret)))}
def F14:CFn:={nt:=14,nk:=0,own:=false,res:=[.tmp 4],body:=(
 qr [qo 2 (.box 2 (.sl 0)),qi 4 0]
 (qr [qf 5 0 2,ql 6 1 false 5,qm 7 1,qo 8 (.callU 50 [(.sl 6),(.sl 7)]),qm 1 8]
 (qr [qf 9 1 2,ql 10 1 false 9,qm 11 1,qo 12 (.callU 51 [(.sl 10),(.sl 11)]),qm 1 12]
 (qr [qm 13 1,qm 4 13]
 .ret))))}
def FB20:CFn:={nt:=109,nk:=0,own:=true,res:=[.tmp 4,.tmp 0],body:=(
 qr [qi 4 0]
 (.seq (qr [qi 5 0]
 (.block 0 (.loop (.seq (qr [qm 6 5,qm 7 0,qo 8 (.len (.sl 7)),qb 9 .lss 6 8]
 (qd 9 .skip (.exit 0)))
 (.seq (.block 1 (qr [qm 12 0,qm 13 5,qm 14 1,qo 15 (.iad 12 (.sl 12) (.sl 13)),qf 16 0 15,qe (.stx 1 (.sl 16) (.sl 14))]
 (qr [qm 17 1,qk 18 .add 17 1,qm 1 18]
 (qr [qm 19 0,qm 20 5,qm 21 1,qo 22 (.iad 12 (.sl 19) (.sl 20)),qf 23 1 22,qf 24 0 23,qe (.stx 1 (.sl 24) (.sl 21))]
 (qr [qm 25 1,qk 26 .add 25 1,qm 1 26]
 (qr [qm 27 0,qm 28 5,qo 29 (.iad 12 (.sl 27) (.sl 28)),qf 30 1 29,qf 31 1 30,ql 32 1 false 31,qm 33 1,qo 34 (.callU 57 [(.sl 32),(.sl 33)]),qm 1 34]
 (qr [qm 35 0,qm 36 5,qo 37 (.iad 12 (.sl 35) (.sl 36)),qf 38 1 37,qf 39 2 38,ql 40 1 false 39,qm 41 1,qo 42 (.callU 58 [(.sl 40),(.sl 41)]),qm 1 42]
 (qr [qm 43 0,qm 44 5,qm 45 1,qo 46 (.iad 12 (.sl 43) (.sl 44)),qf 47 4 46,qf 48 0 47,qe (.stx 1 (.sl 48) (.sl 45))]
 (qr [qm 49 1,qk 50 .add 49 1,qm 1 50]
 (qr [qm 51 0,qm 52 5,qm 53 1,qo 54 (.call 59 [.sl 53] []),qo 55 (.iad 12 (.sl 51) (.sl 52)),qf 56 4 55,qf 57 1 56,qe (.stx 1 (.sl 57) (.sl 54))]
 (qr [qm 58 1,qk 59 .add 58 1,qm 1 59]
 (qr [qm 60 0,qm 61 5,qm 62 1,qo 63 (.iad 12 (.sl 60) (.sl 61)),qf 64 4 63,qf 65 2 64,qe (.stx 1 (.sl 65) (.sl 62))]
 (qr [qm 66 1,qk 67 .add 66 1,qm 1 67]
 (qr [qm 68 0,qm 69 5,qm 70 1,qo 71 (.iad 12 (.sl 68) (.sl 69)),qf 72 4 71,qf 73 3 72,qe (.stx 1 (.sl 73) (.sl 70))]
 (qr [qm 74 1,qk 75 .add 74 1,qm 1 75]
 (qr [qm 76 0,qm 77 5,qo 78 (.iad 12 (.sl 76) (.sl 77)),qf 79 4 78,qf 80 4 79,ql 81 1 false 80,qm 82 1,qo 83 (.callU 58 [(.sl 81),(.sl 82)]),qm 1 83]
 (qr [qm 84 0,qm 85 5,qm 86 1,qo 87 (.call 59 [.sl 86] []),qo 88 (.iad 12 (.sl 84) (.sl 85)),qf 89 9 88,qe (.stx 1 (.sl 89) (.sl 87))]
 (qr [qm 90 1,qk 91 .add 90 1,qm 1 91]
 (qr [qm 92 0,qm 93 5,qm 94 1,qo 95 (.call 59 [.sl 94] []),qo 96 (.iad 12 (.sl 92) (.sl 93)),qf 97 10 96,qe (.stx 1 (.sl 97) (.sl 95))]
 (qr [qm 98 1,qk 99 .add 98 1,qm 1 99]
 (qr [qm 100 0,qm 101 5,qm 102 1,qo 103 (.call 59 [.sl 102] []),qo 104 (.iad 12 (.sl 100) (.sl 101)),qf 105 11 104,qe (.stx 1 (.sl 105) (.sl 103))]
 (.reg [qm 106 1,qk 107 .add 106 1,qm 1 107] []))))))))))))))))))))))
 (.reg [qm 10 5,qk 11 .add 10 1,qm 5 11] []))))))
 (qr [qm 108 1,qm 4 108]
 .ret)))}
def F4:CFn:={nt:=92,nk:=0,own:=false,res:=[.tmp 4],body:=(
 qr [qo 2 (.box 2 (.sl 0)),qo 3 (.box 2 (.sl 1)),qc 4 (.bool false)]
 (qr [qi 5 1048576]
 (qr [ql 14 2 true 2,qm 15 5,qo 16 (.call 8 [(.sl 14),(.sl 15)] []),qm 5 16]
 (.seq (qr [qm 17 5,qk 18 .lss 17 0]
 (qd 18 (qr [qc 4 (.bool true)]
 .ret) .skip))
 (qr [ql 19 2 true 3,qm 20 5,qo 21 (.call 8 [(.sl 19),(.sl 20)] []),qm 5 21]
 (.seq (qr [qm 22 5,qk 23 .lss 22 0]
 (qd 23 (qr [qc 4 (.bool true)]
 .ret) .skip))
 (.seq (.reg [ql 24 2 true 2,qo 25 (.call 10 [.sl 24] []),ql 26 2 true 3,qo 27 (.call 10 [.sl 26] []),qo 28 (.call 17 [(.sl 25),(.sl 27)] []),qm 6 28] [(1,2)])
 (qr [ql 29 2 true 2,qo 30 (.call 10 [.sl 29] []),qo 7 (.alloc [qN,qN]),qe (.store 2 (.sl 7) (.sl 30))]
 (qr [ql 31 2 true 3,qo 32 (.call 10 [.sl 31] []),qo 8 (.alloc [qN,qN]),qe (.store 2 (.sl 8) (.sl 32))]
 (qr [ql 33 2 true 7,ql 34 2 true 8,qo 35 (.call 18 [(.sl 33),(.sl 34)] []),qm 9 35]
 (.seq (qr [qm 36 9,qm 37 6,qo 38 (.call 19 [(.sl 36),(.sl 37)] []),qo 39 (.un .not (.sl 38))]
 (qd 39 (qr [qc 4 (.bool false)]
 .ret) .skip))
 (.seq (.seq (.reg [ql 40 2 true 7,ql 41 2 true 2,qo 42 (.call 10 [.sl 41] []),qo 43 (.call 13 [(.sl 40),(.sl 42)] []),qo 44 (.un .not (.sl 43))] [(0,2)])
 (qd 44 (qr [qc 4 (.bool false)]
 .ret) .skip))
 (.seq (.seq (.reg [ql 45 2 true 8,ql 46 2 true 3,qo 47 (.call 10 [.sl 46] []),qo 48 (.call 13 [(.sl 45),(.sl 47)] []),qo 49 (.un .not (.sl 48))] [(0,2)])
 (qd 49 (qr [qc 4 (.bool false)]
 .ret) .skip))
 (qr [qi 10 1]
 (qr [ql 50 2 true 7,qm 51 10,qo 52 (.call 14 [(.sl 50),(.sl 51)] [0]),qm 10 52]
 (qr [ql 53 2 true 8,qm 54 10,qo 55 (.call 14 [(.sl 53),(.sl 54)] [0]),qm 10 55]
 (.seq (qr [qm 56 10,qk 57 .lss 56 0,qm 58 57,⟨(some (58,false)),(some 59),.mv (.sl 9)⟩,⟨(some (58,false)),(some 60),.mv (.sl 6)⟩,⟨(some (58,false)),(some 61),.call 19 [(.sl 59),(.sl 60)] []⟩,⟨(some (58,false)),(some 62),.un .not (.sl 61)⟩,qo 63 (.pick (.sl 58) (.k (.bool true)) (.sl 62))]
 (qd 63 (qr [qc 4 (.bool false)]
 .ret) .skip))
 (qr [qi 11 1]
 (qr [qm 64 9,qm 65 11,qo 66 (.callU 20 [(.sl 64),(.sl 65)]),qm 11 66]
 (qr [qi 12 1]
 (qr [qm 67 9,qm 68 12,qo 69 (.call 21 [(.sl 67),(.sl 68)] []),qm 12 69]
 (.seq (qr [qm 70 12,qk 71 .lss 70 0]
 (qd 71 (qr [qc 4 (.bool false)]
 .ret) .skip))
 (.seq (qr [qm 72 12,qm 73 11,qb 74 .neq 72 73]
 (qd 74 (qr [qc 4 (.bool false)]
 .ret) .skip))
 (.seq (.reg [ql 75 2 true 2,qo 76 (.call 10 [.sl 75] []),ql 77 2 true 3,qo 78 (.call 10 [.sl 77] []),qo 79 (.call 18 [(.sl 76),(.sl 78)] []),qm 13 79] [(1,2)])
 (.seq (qr [qm 80 13,qm 81 6,qo 82 (.call 19 [(.sl 80),(.sl 81)] []),qo 83 (.un .not (.sl 82))]
 (qd 83 (qr [qc 4 (.bool false)]
 .ret) .skip))
 (qr [qi 12 1]
 (qr [qm 84 9,qm 85 12,qo 86 (.call 21 [(.sl 84),(.sl 85)] []),qm 12 86]
 (.seq (qr [qm 87 12,qk 88 .lss 87 0]
 (qd 88 (qr [qc 4 (.bool false)]
 .ret) .skip))
 (.seq (qr [qm 89 12,qm 90 11,qb 91 .neq 89 90]
 (qd 91 (qr [qc 4 (.bool false)]
 .ret) .skip))
 (qr [qc 4 (.bool true)]
 .ret))))))))))))))))))))))))))))))}
def F17:CFn:={nt:=17,nk:=0,own:=false,res:=[.tmp 4],body:=(
 qr [qo 2 (.box 2 (.sl 0)),qo 3 (.box 2 (.sl 1)),qc 4 qN]
 (.seq (qr [ql 5 2 true 2,qo 6 (.call 40 [.sl 5] []),qk 7 .neq 6 0,qm 8 7,⟨(some (8,false)),(some 9),.load 2 true (.sl 3)⟩,⟨(some (8,false)),(some 10),.call 40 [.sl 9] []⟩,⟨(some (8,false)),(some 11),.bin .neq (.sl 10) (.k (.int .i64 0))⟩,qo 12 (.pick (.sl 8) (.k (.bool true)) (.sl 11))]
 (qd 12 (qr [qo 13 (.bsl 85 12 [(.int .i64 0),(.int .i64 0),qN,qN,(.int .i64 0),(.str ⟨#[]⟩),(.int .i64 0),(.int .i64 0),qN,(.str ⟨#[]⟩),(.str ⟨#[]⟩),(.str ⟨#[]⟩)] 0 []),qm 4 13]
 .ret) .skip))
 (qr [ql 14 2 true 2,ql 15 2 true 3,qo 16 (.call 54 [(.sl 14),(.sl 15)] []),qm 4 16]
 .ret)))}
def F18:CFn:={nt:=16,nk:=0,own:=true,res:=[.tmp 4],body:=(
 qr [qo 2 (.box 2 (.sl 0)),qo 3 (.box 2 (.sl 1)),qc 4 qN]
 (.seq (qr [ql 5 2 true 2,qo 6 (.call 46 [.sl 5] []),qo 7 (.un .not (.sl 6)),qm 8 7,⟨(some (8,false)),(some 9),.load 2 true (.sl 3)⟩,⟨(some (8,false)),(some 10),.call 46 [.sl 9] []⟩,⟨(some (8,false)),(some 11),.un .not (.sl 10)⟩,qo 12 (.pick (.sl 8) (.k (.bool true)) (.sl 11))]
 (qd 12 (qr [qc 4 qN]
 .ret) .skip))
 (qr [ql 13 2 true 2,ql 14 2 true 3,qo 15 (.call 55 [(.sl 13),(.sl 14)] []),qm 4 15]
 .ret)))}
def F19:CFn:={nt:=27,nk:=0,own:=false,res:=[.tmp 4],body:=(
 qr [qc 4 (.bool false)]
 (.seq (qr [qm 6 0,qo 7 (.len (.sl 6)),qm 8 1,qo 9 (.len (.sl 8)),qb 10 .neq 7 9]
 (qd 10 (qr [qc 4 (.bool false)]
 .ret) .skip))
 (.seq (qr [qi 5 0]
 (.block 0 (.loop (.seq (qr [qm 11 5,qm 12 0,qo 13 (.len (.sl 12)),qb 14 .lss 11 13]
 (qd 14 .skip (.exit 0)))
 (.seq (.block 1 (qr [qm 17 0,qm 18 5,qo 19 (.iad 12 (.sl 17) (.sl 18)),ql 20 12 true 19,qm 21 1,qm 22 5,qo 23 (.iad 12 (.sl 21) (.sl 22)),ql 24 12 true 23,qo 25 (.call 56 [(.sl 20),(.sl 24)] []),qo 26 (.un .not (.sl 25))]
 (qd 26 (qr [qc 4 (.bool false)]
 .ret) .skip)))
 (.reg [qm 15 5,qk 16 .add 15 1,qm 5 16] []))))))
 (qr [qc 4 (.bool true)]
 .ret))))}
def F21:CFn:={nt:=133,nk:=0,own:=false,res:=[.tmp 4],body:=(
 qr [qi 4 0]
 (.seq (qr [qi 5 0]
 (.block 0 (.loop (.seq (qr [qm 6 5,qm 7 0,qo 8 (.len (.sl 7)),qb 9 .lss 6 8]
 (qd 9 .skip (.exit 0)))
 (.seq (.block 1 (.seq (qr [qm 12 0,qm 13 5,qo 14 (.iad 12 (.sl 12) (.sl 13)),qf 15 0 14,ql 16 1 false 15,qm 17 1,qb 18 .neq 16 17]
 (qd 18 (qr [qi 4 (-1)]
 .ret) .skip))
 (qr [qm 19 1,qk 20 .add 19 1,qm 1 20]
 (.seq (qr [qm 21 0,qm 22 5,qo 23 (.iad 12 (.sl 21) (.sl 22)),qf 24 1 23,qf 25 0 24,ql 26 1 false 25,qm 27 1,qb 28 .neq 26 27]
 (qd 28 (qr [qi 4 (-1)]
 .ret) .skip))
 (qr [qm 29 1,qk 30 .add 29 1,qm 1 30]
 (qr [qm 31 0,qm 32 5,qo 33 (.iad 12 (.sl 31) (.sl 32)),qf 34 1 33,qf 35 1 34,ql 36 1 false 35,qm 37 1,qo 38 (.call 60 [(.sl 36),(.sl 37)] []),qm 1 38]
 (.seq (qr [qm 39 1,qk 40 .lss 39 0]
 (qd 40 (qr [qi 4 (-1)]
 .ret) .skip))
 (qr [qm 41 0,qm 42 5,qo 43 (.iad 12 (.sl 41) (.sl 42)),qf 44 1 43,qf 45 2 44,ql 46 1 false 45,qm 47 1,qo 48 (.call 61 [(.sl 46),(.sl 47)] []),qm 1 48]
 (.seq (qr [qm 49 1,qk 50 .lss 49 0]
 (qd 50 (qr [qi 4 (-1)]
 .ret) .skip))
 (.seq (qr [qm 51 0,qm 52 5,qo 53 (.iad 12 (.sl 51) (.sl 52)),qf 54 4 53,qf 55 0 54,ql 56 1 false 55,qm 57 1,qb 58 .neq 56 57]
 (qd 58 (qr [qi 4 (-1)]
 .ret) .skip))
 (qr [qm 59 1,qk 60 .add 59 1,qm 1 60]
 (.seq (.seq (.reg [qm 61 0,qm 62 5,qo 63 (.iad 12 (.sl 61) (.sl 62)),qf 64 4 63,qf 65 1 64,ql 66 1 false 65,qm 67 1,qo 68 (.call 59 [.sl 67] []),qb 69 .neq 66 68] [(5,7)])
 (qd 69 (qr [qi 4 (-1)]
 .ret) .skip))
 (qr [qm 70 1,qk 71 .add 70 1,qm 1 71]
 (.seq (qr [qm 72 0,qm 73 5,qo 74 (.iad 12 (.sl 72) (.sl 73)),qf 75 4 74,qf 76 2 75,ql 77 1 false 76,qm 78 1,qb 79 .neq 77 78]
 (qd 79 (qr [qi 4 (-1)]
 .ret) .skip))
 (qr [qm 80 1,qk 81 .add 80 1,qm 1 81]
 (.seq (qr [qm 82 0,qm 83 5,qo 84 (.iad 12 (.sl 82) (.sl 83)),qf 85 4 84,qf 86 3 85,ql 87 1 false 86,qm 88 1,qb 89 .neq 87 88]
 (qd 89 (qr [qi 4 (-1)]
 .ret) .skip))
 (qr [qm 90 1,qk 91 .add 90 1,qm 1 91]
 (qr [qm 92 0,qm 93 5,qo 94 (.iad 12 (.sl 92) (.sl 93)),qf 95 4 94,qf 96 4 95,ql 97 1 false 96,qm 98 1,qo 99 (.call 61 [(.sl 97),(.sl 98)] []),qm 1 99]
 (.seq (qr [qm 100 1,qk 101 .lss 100 0]
 (qd 101 (qr [qi 4 (-1)]
 .ret) .skip))
 (.seq (.seq (.reg [qm 102 0,qm 103 5,qo 104 (.iad 12 (.sl 102) (.sl 103)),qf 105 9 104,ql 106 1 false 105,qm 107 1,qo 108 (.call 59 [.sl 107] []),qb 109 .neq 106 108] [(4,6)])
 (qd 109 (qr [qi 4 (-1)]
 .ret) .skip))
 (qr [qm 110 1,qk 111 .add 110 1,qm 1 111]
 (.seq (.seq (.reg [qm 112 0,qm 113 5,qo 114 (.iad 12 (.sl 112) (.sl 113)),qf 115 10 114,ql 116 1 false 115,qm 117 1,qo 118 (.call 59 [.sl 117] []),qb 119 .neq 116 118] [(4,6)])
 (qd 119 (qr [qi 4 (-1)]
 .ret) .skip))
 (qr [qm 120 1,qk 121 .add 120 1,qm 1 121]
 (.seq (.seq (.reg [qm 122 0,qm 123 5,qo 124 (.iad 12 (.sl 122) (.sl 123)),qf 125 11 124,ql 126 1 false 125,qm 127 1,qo 128 (.call 59 [.sl 127] []),qb 129 .neq 126 128] [(4,6)])
 (qd 129 (qr [qi 4 (-1)]
 .ret) .skip))
 (.reg [qm 130 1,qk 131 .add 130 1,qm 1 131] [])))))))))))))))))))))))))
 (.reg [qm 10 5,qk 11 .add 10 1,qm 5 11] []))))))
 (qr [qm 132 1,qm 4 132]
 .ret)))}
def F54:CFn:={nt:=235,nk:=0,own:=false,res:=[.tmp 4],body:=(
 qr [qo 2 (.box 2 (.sl 0)),qo 3 (.box 2 (.sl 1)),qc 4 qN]
 (qr [qo 13 (.bsl 85 12 [(.int .i64 0),(.int .i64 0),qN,qN,(.int .i64 0),(.str ⟨#[]⟩),(.int .i64 0),(.int .i64 0),qN,(.str ⟨#[]⟩),(.str ⟨#[]⟩),(.str ⟨#[]⟩)] 0 []),qm 5 13]
 (.seq (qr [qi 6 0]
 (.block 0 (.loop (.seq (qr [qm 14 6,qf 15 1 2,ql 16 1 false 15,qo 17 (.len (.sl 16)),qb 18 .lss 14 17]
 (qd 18 .skip (.exit 0)))
 (.seq (.block 1 (qr [ql 21 2 true 3,qf 22 1 2,ql 23 1 false 22,qm 24 6,qo 25 (.iad 5 (.sl 23) (.sl 24)),ql 26 5 true 25,qo 27 (.call 95 [(.sl 21),(.sl 26)] []),qo 28 (.un .not (.sl 27))]
 (qd 28 (.reg [qm 29 5,qf 30 1 2,ql 31 1 false 30,qm 32 6,qo 33 (.iad 5 (.sl 31) (.sl 32)),qf 34 0 33,ql 35 1 false 34,qo 36 (.build [(.int .i64 0),(.str ⟨#[]⟩),(.int .i64 0),(.int .i64 0),qN] [(0,1,(.sl 35))]),qo 37 (.build [(.int .i64 0),(.int .i64 0),qN,qN,(.int .i64 0),(.str ⟨#[]⟩),(.int .i64 0),(.int .i64 0),qN,(.str ⟨#[]⟩),(.str ⟨#[]⟩),(.str ⟨#[]⟩)] [(0,1,(.k (.int .i64 4))),(4,5,(.sl 36))]),qo 38 (.bsl 85 12 [(.int .i64 0),(.int .i64 0),qN,qN,(.int .i64 0),(.str ⟨#[]⟩),(.int .i64 0),(.int .i64 0),qN,(.str ⟨#[]⟩),(.str ⟨#[]⟩),(.str ⟨#[]⟩)] 1 [(0,12,(.sl 37))]),qo 39 (.app 85 12 176 (.sl 29) (.sl 38)),qm 5 39] []) .skip)))
 (.reg [qm 19 6,qk 20 .add 19 1,qm 6 20] []))))))
 (.seq (qr [qi 7 0]
 (.block 2 (.loop (.seq (qr [qm 40 7,qf 41 0 2,ql 42 1 false 41,qo 43 (.len (.sl 42)),qb 44 .lss 40 43]
 (qd 44 .skip (.exit 2)))
 (.seq (.block 3 (qr [ql 47 2 true 3,qf 48 0 2,ql 49 1 false 48,qm 50 7,qo 51 (.iad 3 (.sl 49) (.sl 50)),qf 52 0 51,ql 53 1 false 52,qo 54 (.call 83 [(.sl 47),(.sl 53)] []),qk 55 .lss 54 0]
 (qd 55 (.reg [qm 56 5,qf 57 0 2,ql 58 1 false 57,qm 59 7,qo 60 (.iad 3 (.sl 58) (.sl 59)),qf 61 0 60,ql 62 1 false 61,qo 63 (.build [(.int .i64 0),qN,qN] [(0,1,(.sl 62))]),qo 64 (.build [(.int .i64 0),(.int .i64 0),qN,qN,(.int .i64 0),(.str ⟨#[]⟩),(.int .i64 0),(.int .i64 0),qN,(.str ⟨#[]⟩),(.str ⟨#[]⟩),(.str ⟨#[]⟩)] [(0,1,(.k (.int .i64 2))),(1,3,(.sl 63))]),qo 65 (.bsl 85 12 [(.int .i64 0),(.int .i64 0),qN,qN,(.int .i64 0),(.str ⟨#[]⟩),(.int .i64 0),(.int .i64 0),qN,(.str ⟨#[]⟩),(.str ⟨#[]⟩),(.str ⟨#[]⟩)] 1 [(0,12,(.sl 64))]),qo 66 (.app 85 12 176 (.sl 56) (.sl 65)),qm 5 66] []) .skip)))
 (.reg [qm 45 7,qk 46 .add 45 1,qm 7 46] []))))))
 (.seq (qr [qi 8 0]
 (.block 4 (.loop (.seq (qr [qm 67 8,qf 68 0 3,ql 69 1 false 68,qo 70 (.len (.sl 69)),qb 71 .lss 67 70]
 (qd 71 .skip (.exit 4)))
 (.seq (.block 5 (qr [ql 74 2 true 2,qf 75 0 3,ql 76 1 false 75,qm 77 8,qo 78 (.iad 3 (.sl 76) (.sl 77)),qf 79 0 78,ql 80 1 false 79,qo 81 (.call 83 [(.sl 74),(.sl 80)] []),qk 82 .lss 81 0]
 (qd 82 (.reg [qm 83 5,qf 84 0 3,ql 85 1 false 84,qm 86 8,qo 87 (.iad 3 (.sl 85) (.sl 86)),ql 88 3 true 87,qo 89 (.call 42 [.sl 88] []),qo 90 (.build [(.int .i64 0),(.int .i64 0),qN,qN,(.int .i64 0),(.str ⟨#[]⟩),(.int .i64 0),(.int .i64 0),qN,(.str ⟨#[]⟩),(.str ⟨#[]⟩),(.str ⟨#[]⟩)] [(0,1,(.k (.int .i64 1))),(1,3,(.sl 89))]),qo 91 (.bsl 85 12 [(.int .i64 0),(.int .i64 0),qN,qN,(.int .i64 0),(.str ⟨#[]⟩),(.int .i64 0),(.int .i64 0),qN,(.str ⟨#[]⟩),(.str ⟨#[]⟩),(.str ⟨#[]⟩)] 1 [(0,12,(.sl 90))]),qo 92 (.app 85 12 176 (.sl 83) (.sl 91)),qm 5 92] []) .skip)))
 (.reg [qm 72 8,qk 73 .add 72 1,qm 8 73] []))))))
 (.seq (qr [qi 9 0]
 (.block 6 (.loop (.seq (qr [qm 93 9,qf 94 1 3,ql 95 1 false 94,qo 96 (.len (.sl 95)),qb 97 .lss 93 96]
 (qd 97 .skip (.exit 6)))
 (.seq (.block 7 (qr [ql 100 2 true 2,qf 101 1 3,ql 102 1 false 101,qm 103 9,qo 104 (.iad 5 (.sl 102) (.sl 103)),ql 105 5 true 104,qo 106 (.call 95 [(.sl 100),(.sl 105)] []),qo 107 (.un .not (.sl 106))]
 (qd 107 (.reg [qm 108 5,qf 109 1 3,ql 110 1 false 109,qm 111 9,qo 112 (.iad 5 (.sl 110) (.sl 111)),ql 113 5 true 112,qo 114 (.call 41 [.sl 113] []),qo 115 (.build [(.int .i64 0),(.int .i64 0),qN,qN,(.int .i64 0),(.str ⟨#[]⟩),(.int .i64 0),(.int .i64 0),qN,(.str ⟨#[]⟩),(.str ⟨#[]⟩),(.str ⟨#[]⟩)] [(0,1,(.k (.int .i64 3))),(4,5,(.sl 114))]),qo 116 (.bsl 85 12 [(.int .i64 0),(.int .i64 0),qN,qN,(.int .i64 0),(.str ⟨#[]⟩),(.int .i64 0),(.int .i64 0),qN,(.str ⟨#[]⟩),(.str ⟨#[]⟩),(.str ⟨#[]⟩)] 1 [(0,12,(.sl 115))]),qo 117 (.app 85 12 176 (.sl 108) (.sl 116)),qm 5 117] []) .skip)))
 (.reg [qm 98 9,qk 99 .add 98 1,qm 9 99] []))))))
 (.seq (qr [qi 10 0]
 (.block 8 (.loop (.seq (qr [qm 118 10,qf 119 0 2,ql 120 1 false 119,qo 121 (.len (.sl 120)),qb 122 .lss 118 121]
 (qd 122 .skip (.exit 8)))
 (.seq (.block 9 (qr [ql 125 2 true 3,qf 126 0 2,ql 127 1 false 126,qm 128 10,qo 129 (.iad 3 (.sl 127) (.sl 128)),qf 130 0 129,ql 131 1 false 130,qo 132 (.call 83 [(.sl 125),(.sl 131)] []),qm 11 132]
 (.seq (qr [qm 133 11,qk 134 .lss 133 0]
 (qd 134 (.exit 9) .skip))
 (.seq (qr [qf 135 0 2,ql 136 1 false 135,qm 137 10,qo 138 (.iad 3 (.sl 136) (.sl 137)),qf 139 1 138,ql 140 1 false 139,qf 141 0 3,ql 142 1 false 141,qm 143 11,qo 144 (.iad 3 (.sl 142) (.sl 143)),qf 145 1 144,ql 146 1 false 145,qo 147 (.call 96 [(.sl 140),(.sl 146)] []),qo 148 (.un .not (.sl 147))]
 (qd 148 (.reg [qm 149 5,qf 150 0 2,ql 151 1 false 150,qm 152 10,qo 153 (.iad 3 (.sl 151) (.sl 152)),qf 154 0 153,ql 155 1 false 154,qf 156 0 3,ql 157 1 false 156,qm 158 11,qo 159 (.iad 3 (.sl 157) (.sl 158)),qf 160 1 159,ql 161 1 false 160,qo 162 (.call 85 [.sl 161] []),qo 163 (.build [(.int .i64 0),qN,qN] [(0,1,(.sl 155)),(1,1,(.sl 162))]),qo 164 (.build [(.int .i64 0),(.int .i64 0),qN,qN,(.int .i64 0),(.str ⟨#[]⟩),(.int .i64 0),(.int .i64 0),qN,(.str ⟨#[]⟩),(.str ⟨#[]⟩),(.str ⟨#[]⟩)] [(0,1,(.k (.int .i64 5))),(1,3,(.sl 163))]),qo 165 (.bsl 85 12 [(.int .i64 0),(.int .i64 0),qN,qN,(.int .i64 0),(.str ⟨#[]⟩),(.int .i64 0),(.int .i64 0),qN,(.str ⟨#[]⟩),(.str ⟨#[]⟩),(.str ⟨#[]⟩)] 1 [(0,12,(.sl 164))]),qo 166 (.app 85 12 176 (.sl 149) (.sl 165)),qm 5 166] [(2,13),(6,13)]) .skip))
 (.reg [qm 167 5,qf 168 0 2,ql 169 1 false 168,qm 170 10,qo 171 (.iad 3 (.sl 169) (.sl 170)),qf 172 0 171,ql 173 1 false 172,qo 174 (.call 98 [.sl 173] []),qo 175 (.bin .add (.k (.str ⟨#[110]⟩)) (.sl 174)),qf 176 0 2,ql 177 1 false 176,qm 178 10,qo 179 (.iad 3 (.sl 177) (.sl 178)),qf 180 2 179,ql 181 1 false 180,qf 182 0 3,ql 183 1 false 182,qm 184 11,qo 185 (.iad 3 (.sl 183) (.sl 184)),qf 186 2 185,ql 187 1 false 186,qo 188 (.call 97 [(.sl 175),(.sl 181),(.sl 187)] []),qo 189 (.app 85 12 176 (.sl 167) (.sl 188)),qm 5 189] [(7,10),(7,14),(7,16),(7,20)])))))
 (.reg [qm 123 10,qk 124 .add 123 1,qm 10 124] []))))))
 (.seq (qr [qi 12 0]
 (.block 10 (.loop (.seq (qr [qm 190 12,qf 191 1 2,ql 192 1 false 191,qo 193 (.len (.sl 192)),qb 194 .lss 190 193]
 (qd 194 .skip (.exit 10)))
 (.seq (.block 11 (qr [ql 197 2 true 3,qf 198 1 2,ql 199 1 false 198,qm 200 12,qo 201 (.iad 5 (.sl 199) (.sl 200)),ql 202 5 true 201,qo 203 (.call 95 [(.sl 197),(.sl 202)] [])]
 (qd 203 (.reg [qm 204 5,qf 205 1 2,ql 206 1 false 205,qm 207 12,qo 208 (.iad 5 (.sl 206) (.sl 207)),qf 209 0 208,ql 210 1 false 209,qo 211 (.call 98 [.sl 210] []),qo 212 (.bin .add (.k (.str ⟨#[101]⟩)) (.sl 211)),qf 213 1 2,ql 214 1 false 213,qm 215 12,qo 216 (.iad 5 (.sl 214) (.sl 215)),qf 217 4 216,ql 218 1 false 217,qf 219 1 3,ql 220 1 false 219,ql 221 2 true 3,qf 222 1 2,ql 223 1 false 222,qm 224 12,qo 225 (.iad 5 (.sl 223) (.sl 224)),qf 226 0 225,ql 227 1 false 226,qo 228 (.call 99 [(.sl 221),(.sl 227)] []),qo 229 (.iad 5 (.sl 220) (.sl 228)),qf 230 4 229,ql 231 1 false 230,qo 232 (.call 97 [(.sl 212),(.sl 218),(.sl 231)] []),qo 233 (.app 85 12 176 (.sl 204) (.sl 232)),qm 5 233] [(7,10),(7,14),(7,16),(7,17),(7,19),(7,23),(10,24),(14,24),(16,24)]) .skip)))
 (.reg [qm 195 12,qk 196 .add 195 1,qm 12 196] []))))))
 (qr [qm 234 5,qm 4 234]
 .ret)))))))))}
def F55:CFn:={nt:=200,nk:=0,own:=true,res:=[.tmp 4],body:=(
 qr [qo 2 (.box 2 (.sl 0)),qo 3 (.box 2 (.sl 1)),qc 4 qN]
 (qr [qc 5 qN]
 (qr [qo 22 (.mkfn 100 [.sl 3]),qm 6 22]
 (.seq (qr [qf 23 1 2,ql 24 1 false 23,qo 25 (.len (.sl 24)),qi 26 0]
 (.block 0 (.loop (qr [qb 27 .lss 26 25]
 (.seq (qd 27 .skip (.exit 0))
 (.seq (.block 1 (qr [qo 28 (.iad 5 (.sl 24) (.sl 26)),ql 29 5 true 28,qo 8 (.alloc [(.int .i64 0),(.str ⟨#[]⟩),(.int .i64 0),(.int .i64 0),qN]),qe (.store 5 (.sl 8) (.sl 29))]
 (qr [qm 30 6,ql 31 5 true 8,qo 32 (.cval (.sl 30) [.sl 31]),qk 33 .lss 32 0]
 (qd 33 (.reg [qm 34 5,qf 35 0 8,ql 36 1 false 35,qo 37 (.build [(.int .i64 0),(.str ⟨#[]⟩),(.int .i64 0),(.int .i64 0),qN] [(0,1,(.sl 36))]),qo 38 (.build [(.int .i64 0),(.int .i64 0),qN,qN,(.int .i64 0),(.str ⟨#[]⟩),(.int .i64 0),(.int .i64 0),qN,(.str ⟨#[]⟩),(.str ⟨#[]⟩),(.str ⟨#[]⟩)] [(0,1,(.k (.int .i64 4))),(4,5,(.sl 37))]),qo 39 (.bsl 85 12 [(.int .i64 0),(.int .i64 0),qN,qN,(.int .i64 0),(.str ⟨#[]⟩),(.int .i64 0),(.int .i64 0),qN,(.str ⟨#[]⟩),(.str ⟨#[]⟩),(.str ⟨#[]⟩)] 1 [(0,12,(.sl 38))]),qo 40 (.app 85 12 176 (.sl 34) (.sl 39)),qm 5 40] []) .skip))))
 (.reg [qk 41 .add 26 1,qm 26 41] [])))))))
 (.seq (qr [qf 42 0 2,ql 43 1 false 42,qo 44 (.len (.sl 43)),qi 45 0]
 (.block 2 (.loop (qr [qb 46 .lss 45 44]
 (.seq (qd 46 .skip (.exit 2))
 (.seq (.block 3 (qr [qo 47 (.iad 3 (.sl 43) (.sl 45)),ql 48 3 true 47,qo 10 (.alloc [(.int .i64 0),qN,qN]),qe (.store 3 (.sl 10) (.sl 48))]
 (qr [ql 49 2 true 3,qf 50 0 10,ql 51 1 false 50,qo 52 (.call 90 [(.sl 49),(.sl 51)] []),qk 53 .lss 52 0]
 (qd 53 (.reg [qm 54 5,qf 55 0 10,ql 56 1 false 55,qo 57 (.build [(.int .i64 0),qN,qN] [(0,1,(.sl 56))]),qo 58 (.build [(.int .i64 0),(.int .i64 0),qN,qN,(.int .i64 0),(.str ⟨#[]⟩),(.int .i64 0),(.int .i64 0),qN,(.str ⟨#[]⟩),(.str ⟨#[]⟩),(.str ⟨#[]⟩)] [(0,1,(.k (.int .i64 2))),(1,3,(.sl 57))]),qo 59 (.bsl 85 12 [(.int .i64 0),(.int .i64 0),qN,qN,(.int .i64 0),(.str ⟨#[]⟩),(.int .i64 0),(.int .i64 0),qN,(.str ⟨#[]⟩),(.str ⟨#[]⟩),(.str ⟨#[]⟩)] 1 [(0,12,(.sl 58))]),qo 60 (.app 85 12 176 (.sl 54) (.sl 59)),qm 5 60] []) .skip))))
 (.reg [qk 61 .add 45 1,qm 45 61] [])))))))
 (.seq (qr [qf 62 0 3,ql 63 1 false 62,qo 64 (.len (.sl 63)),qi 65 0]
 (.block 4 (.loop (qr [qb 66 .lss 65 64]
 (.seq (qd 66 .skip (.exit 4))
 (.seq (.block 5 (qr [qo 67 (.iad 3 (.sl 63) (.sl 65)),ql 68 3 true 67,qo 12 (.alloc [(.int .i64 0),qN,qN]),qe (.store 3 (.sl 12) (.sl 68))]
 (qr [ql 69 2 true 2,qf 70 0 12,ql 71 1 false 70,qo 72 (.call 90 [(.sl 69),(.sl 71)] []),qk 73 .lss 72 0]
 (qd 73 (.reg [qm 74 5,ql 75 3 true 12,qo 76 (.call 66 [.sl 75] []),qo 77 (.build [(.int .i64 0),(.int .i64 0),qN,qN,(.int .i64 0),(.str ⟨#[]⟩),(.int .i64 0),(.int .i64 0),qN,(.str ⟨#[]⟩),(.str ⟨#[]⟩),(.str ⟨#[]⟩)] [(0,1,(.k (.int .i64 1))),(1,3,(.sl 76))]),qo 78 (.bsl 85 12 [(.int .i64 0),(.int .i64 0),qN,qN,(.int .i64 0),(.str ⟨#[]⟩),(.int .i64 0),(.int .i64 0),qN,(.str ⟨#[]⟩),(.str ⟨#[]⟩),(.str ⟨#[]⟩)] 1 [(0,12,(.sl 77))]),qo 79 (.app 85 12 176 (.sl 74) (.sl 78)),qm 5 79] []) .skip))))
 (.reg [qk 80 .add 65 1,qm 65 80] [])))))))
 (.seq (qr [qf 81 1 3,ql 82 1 false 81,qo 83 (.len (.sl 82)),qi 84 0]
 (.block 6 (.loop (qr [qb 85 .lss 84 83]
 (.seq (qd 85 .skip (.exit 6))
 (.seq (.block 7 (qr [qo 86 (.iad 5 (.sl 82) (.sl 84)),ql 87 5 true 86,qo 14 (.alloc [(.int .i64 0),(.str ⟨#[]⟩),(.int .i64 0),(.int .i64 0),qN]),qe (.store 5 (.sl 14) (.sl 87))]
 (qr [ql 88 2 true 2,qf 89 0 14,ql 90 1 false 89,qo 91 (.call 101 [(.sl 88),(.sl 90)] []),qm 15 91]
 (qr [qm 92 15,qk 93 .lss 92 0,qm 94 93,⟨(some (94,false)),(some 95),.mv (.sl 6)⟩,⟨(some (94,false)),(some 96),.fad 1 (.sl 2)⟩,⟨(some (94,false)),(some 97),.load 1 false (.sl 96)⟩,⟨(some (94,false)),(some 98),.mv (.sl 15)⟩,⟨(some (94,false)),(some 99),.iad 5 (.sl 97) (.sl 98)⟩,⟨(some (94,false)),(some 100),.load 5 true (.sl 99)⟩,⟨(some (94,false)),(some 101),.cval (.sl 95) [.sl 100]⟩,⟨(some (94,false)),(some 102),.bin .lss (.sl 101) (.k (.int .i64 0))⟩,qo 103 (.pick (.sl 94) (.k (.bool true)) (.sl 102))]
 (qd 103 (.reg [qm 104 5,ql 105 5 true 14,qo 106 (.call 68 [.sl 105] []),qo 107 (.build [(.int .i64 0),(.int .i64 0),qN,qN,(.int .i64 0),(.str ⟨#[]⟩),(.int .i64 0),(.int .i64 0),qN,(.str ⟨#[]⟩),(.str ⟨#[]⟩),(.str ⟨#[]⟩)] [(0,1,(.k (.int .i64 3))),(4,5,(.sl 106))]),qo 108 (.bsl 85 12 [(.int .i64 0),(.int .i64 0),qN,qN,(.int .i64 0),(.str ⟨#[]⟩),(.int .i64 0),(.int .i64 0),qN,(.str ⟨#[]⟩),(.str ⟨#[]⟩),(.str ⟨#[]⟩)] 1 [(0,12,(.sl 107))]),qo 109 (.app 85 12 176 (.sl 104) (.sl 108)),qm 5 109] []) .skip)))))
 (.reg [qk 110 .add 84 1,qm 84 110] [])))))))
 (.seq (qr [qf 111 0 3,ql 112 1 false 111,qo 113 (.len (.sl 112)),qi 114 0]
 (.block 8 (.loop (qr [qb 115 .lss 114 113]
 (.seq (qd 115 .skip (.exit 8))
 (.seq (.block 9 (qr [qo 116 (.iad 3 (.sl 112) (.sl 114)),ql 117 3 true 116,qo 17 (.alloc [(.int .i64 0),qN,qN]),qe (.store 3 (.sl 17) (.sl 117))]
 (qr [ql 118 2 true 2,qf 119 0 17,ql 120 1 false 119,qo 121 (.call 90 [(.sl 118),(.sl 120)] []),qm 18 121]
 (.seq (qr [qm 122 18,qk 123 .lss 122 0]
 (qd 123 (.exit 9) .skip))
 (.seq (qr [qf 124 0 2,ql 125 1 false 124,qm 126 18,qo 127 (.iad 3 (.sl 125) (.sl 126)),qf 128 1 127,ql 129 1 false 128,qf 130 1 17,ql 131 1 false 130,qo 132 (.call 102 [(.sl 129),(.sl 131)] []),qo 133 (.un .not (.sl 132))]
 (qd 133 (.reg [qm 134 5,qf 135 0 17,ql 136 1 false 135,qf 137 1 17,ql 138 1 false 137,qo 139 (.call 103 [.sl 138] []),qo 140 (.build [(.int .i64 0),qN,qN] [(0,1,(.sl 136)),(1,1,(.sl 139))]),qo 141 (.build [(.int .i64 0),(.int .i64 0),qN,qN,(.int .i64 0),(.str ⟨#[]⟩),(.int .i64 0),(.int .i64 0),qN,(.str ⟨#[]⟩),(.str ⟨#[]⟩),(.str ⟨#[]⟩)] [(0,1,(.k (.int .i64 5))),(1,3,(.sl 140))]),qo 142 (.bsl 85 12 [(.int .i64 0),(.int .i64 0),qN,qN,(.int .i64 0),(.str ⟨#[]⟩),(.int .i64 0),(.int .i64 0),qN,(.str ⟨#[]⟩),(.str ⟨#[]⟩),(.str ⟨#[]⟩)] 1 [(0,12,(.sl 141))]),qo 143 (.app 85 12 176 (.sl 134) (.sl 142)),qm 5 143] [(2,5)]) .skip))
 (.reg [qm 144 5,qf 145 0 17,ql 146 1 false 145,qo 147 (.call 105 [.sl 146] []),qo 148 (.bin .add (.k (.str ⟨#[110]⟩)) (.sl 147)),qf 149 0 2,ql 150 1 false 149,qm 151 18,qo 152 (.iad 3 (.sl 150) (.sl 151)),qf 153 2 152,ql 154 1 false 153,qf 155 2 17,ql 156 1 false 155,qo 157 (.call 104 [(.sl 148),(.sl 154),(.sl 156)] []),qo 158 (.app 85 12 176 (.sl 144) (.sl 157)),qm 5 158] [(3,6),(3,10),(3,12)]))))))
 (.reg [qk 159 .add 114 1,qm 114 159] [])))))))
 (.seq (qr [qf 160 1 3,ql 161 1 false 160,qo 162 (.len (.sl 161)),qi 163 0]
 (.block 10 (.loop (qr [qb 164 .lss 163 162]
 (.seq (qd 164 .skip (.exit 10))
 (.seq (.block 11 (qr [qo 165 (.iad 5 (.sl 161) (.sl 163)),ql 166 5 true 165,qo 20 (.alloc [(.int .i64 0),(.str ⟨#[]⟩),(.int .i64 0),(.int .i64 0),qN]),qe (.store 5 (.sl 20) (.sl 166))]
 (qr [ql 167 2 true 2,qf 168 0 20,ql 169 1 false 168,qo 170 (.call 101 [(.sl 167),(.sl 169)] []),qm 21 170]
 (qr [qm 171 21,qk 172 .geq 171 0,qm 173 172,⟨(some (173,true)),(some 174),.mv (.sl 6)⟩,⟨(some (173,true)),(some 175),.fad 1 (.sl 2)⟩,⟨(some (173,true)),(some 176),.load 1 false (.sl 175)⟩,⟨(some (173,true)),(some 177),.mv (.sl 21)⟩,⟨(some (173,true)),(some 178),.iad 5 (.sl 176) (.sl 177)⟩,⟨(some (173,true)),(some 179),.load 5 true (.sl 178)⟩,⟨(some (173,true)),(some 180),.cval (.sl 174) [.sl 179]⟩,⟨(some (173,true)),(some 181),.bin .geq (.sl 180) (.k (.int .i64 0))⟩,qo 182 (.pick (.sl 173) (.sl 181) (.k (.bool false)))]
 (qd 182 (.reg [qm 183 5,qf 184 0 20,ql 185 1 false 184,qo 186 (.call 105 [.sl 185] []),qo 187 (.bin .add (.k (.str ⟨#[101]⟩)) (.sl 186)),qf 188 1 2,ql 189 1 false 188,qm 190 21,qo 191 (.iad 5 (.sl 189) (.sl 190)),qf 192 4 191,ql 193 1 false 192,qf 194 4 20,ql 195 1 false 194,qo 196 (.call 104 [(.sl 187),(.sl 193),(.sl 195)] []),qo 197 (.app 85 12 176 (.sl 183) (.sl 196)),qm 5 197] [(3,6),(3,10),(3,12)]) .skip)))))
 (.reg [qk 198 .add 163 1,qm 163 198] [])))))))
 (qr [qm 199 5,qm 4 199]
 .ret))))))))))}
def F56:CFn:={nt:=37,nk:=0,own:=false,res:=[.tmp 4],body:=(
 qr [qo 2 (.box 12 (.sl 0)),qo 3 (.box 12 (.sl 1)),qc 4 (.bool false)]
 (.seq (qr [qf 5 0 2,ql 6 1 false 5,qf 7 0 3,ql 8 1 false 7,qb 9 .neq 6 8]
 (qd 9 (qr [qc 4 (.bool false)]
 .ret) .skip))
 (.seq (qr [qf 10 1 2,ql 11 3 true 10,qf 12 1 3,ql 13 3 true 12,qo 14 (.call 93 [(.sl 11),(.sl 13)] []),qo 15 (.un .not (.sl 14))]
 (qd 15 (qr [qc 4 (.bool false)]
 .ret) .skip))
 (.seq (qr [qf 16 4 2,ql 17 5 true 16,qf 18 4 3,ql 19 5 true 18,qo 20 (.call 94 [(.sl 17),(.sl 19)] []),qo 21 (.un .not (.sl 20))]
 (qd 21 (qr [qc 4 (.bool false)]
 .ret) .skip))
 (.seq (qr [qf 22 9 2,ql 23 1 false 22,qf 24 9 3,ql 25 1 false 24,qb 26 .neq 23 25]
 (qd 26 (qr [qc 4 (.bool false)]
 .ret) .skip))
 (.seq (qr [qf 27 10 2,ql 28 1 false 27,qf 29 10 3,ql 30 1 false 29,qb 31 .neq 28 30]
 (qd 31 (qr [qc 4 (.bool false)]
 .ret) .skip))
 (.seq (qr [qf 32 11 2,ql 33 1 false 32,qf 34 11 3,ql 35 1 false 34,qb 36 .neq 33 35]
 (qd 36 (qr [qc 4 (.bool false)]
 .ret) .skip))
 (qr [qc 4 (.bool true)]
 .ret))))))))}
def F95:CFn:={nt:=45,nk:=0,own:=false,res:=[.tmp 4],body:=(
 qr [qo 2 (.box 2 (.sl 0)),qo 3 (.box 5 (.sl 1)),qc 4 (.bool false)]
 (qr [ql 6 2 true 2,qf 7 0 3,ql 8 1 false 7,qo 9 (.call 99 [(.sl 6),(.sl 8)] []),qm 5 9]
 (qr [qm 10 5,qk 11 .geq 10 0,qm 12 11,⟨(some (12,true)),(some 13),.fad 1 (.sl 2)⟩,⟨(some (12,true)),(some 14),.load 1 false (.sl 13)⟩,⟨(some (12,true)),(some 15),.mv (.sl 5)⟩,⟨(some (12,true)),(some 16),.iad 5 (.sl 14) (.sl 15)⟩,⟨(some (12,true)),(some 17),.fad 1 (.sl 16)⟩,⟨(some (12,true)),(some 18),.load 1 false (.sl 17)⟩,⟨(some (12,true)),(some 19),.fad 1 (.sl 3)⟩,⟨(some (12,true)),(some 20),.load 1 false (.sl 19)⟩,⟨(some (12,true)),(some 21),.bin .eql (.sl 18) (.sl 20)⟩,qo 22 (.pick (.sl 12) (.sl 21) (.k (.bool false))),qm 23 22,⟨(some (23,true)),(some 24),.fad 1 (.sl 2)⟩,⟨(some (23,true)),(some 25),.load 1 false (.sl 24)⟩,⟨(some (23,true)),(some 26),.mv (.sl 5)⟩,⟨(some (23,true)),(some 27),.iad 5 (.sl 25) (.sl 26)⟩,⟨(some (23,true)),(some 28),.fad 2 (.sl 27)⟩,⟨(some (23,true)),(some 29),.load 1 false (.sl 28)⟩,⟨(some (23,true)),(some 30),.fad 2 (.sl 3)⟩,⟨(some (23,true)),(some 31),.load 1 false (.sl 30)⟩,⟨(some (23,true)),(some 32),.bin .eql (.sl 29) (.sl 31)⟩,qo 33 (.pick (.sl 23) (.sl 32) (.k (.bool false))),qm 34 33,⟨(some (34,true)),(some 35),.fad 1 (.sl 2)⟩,⟨(some (34,true)),(some 36),.load 1 false (.sl 35)⟩,⟨(some (34,true)),(some 37),.mv (.sl 5)⟩,⟨(some (34,true)),(some 38),.iad 5 (.sl 36) (.sl 37)⟩,⟨(some (34,true)),(some 39),.fad 3 (.sl 38)⟩,⟨(some (34,true)),(some 40),.load 1 false (.sl 39)⟩,⟨(some (34,true)),(some 41),.fad 3 (.sl 3)⟩,⟨(some (34,true)),(some 42),.load 1 false (.sl 41)⟩,⟨(some (34,true)),(some 43),.bin .eql (.sl 40) (.sl 42)⟩,qo 44 (.pick (.sl 34) (.sl 43) (.k (.bool false))),qm 4 44]
 .ret)))}
def F96:CFn:={nt:=26,nk:=0,own:=false,res:=[.tmp 4],body:=(
 qr [qc 4 (.bool false)]
 (.seq (qr [qm 6 0,qo 7 (.len (.sl 6)),qm 8 1,qo 9 (.len (.sl 8)),qb 10 .neq 7 9]
 (qd 10 (qr [qc 4 (.bool false)]
 .ret) .skip))
 (.seq (qr [qi 5 0]
 (.block 0 (.loop (.seq (qr [qm 11 5,qm 12 0,qo 13 (.len (.sl 12)),qb 14 .lss 11 13]
 (qd 14 .skip (.exit 0)))
 (.seq (.block 1 (qr [qm 17 0,qm 18 5,qo 19 (.iad 1 (.sl 17) (.sl 18)),ql 20 1 false 19,qm 21 1,qm 22 5,qo 23 (.iad 1 (.sl 21) (.sl 22)),ql 24 1 false 23,qb 25 .neq 20 24]
 (qd 25 (qr [qc 4 (.bool false)]
 .ret) .skip)))
 (.reg [qm 15 5,qk 16 .add 15 1,qm 5 16] []))))))
 (qr [qc 4 (.bool true)]
 .ret))))}
def F97:CFn:={nt:=103,nk:=0,own:=false,res:=[.tmp 6],body:=(
 qr [qc 6 qN]
 (qr [qo 15 (.bsl 133 2 [(.str ⟨#[]⟩),(.str ⟨#[]⟩)] 0 []),qm 7 15]
 (.seq (qr [qi 8 0]
 (.block 0 (.loop (.seq (qr [qm 16 8,qm 17 1,qo 18 (.len (.sl 17)),qb 19 .lss 16 18]
 (qd 19 .skip (.exit 0)))
 (.seq (.block 1 (.reg [qm 22 7,qm 23 1,qm 24 8,qo 25 (.iad 2 (.sl 23) (.sl 24)),qf 26 0 25,ql 27 1 false 26,qo 28 (.build [(.str ⟨#[]⟩),(.str ⟨#[]⟩)] [(0,1,(.sl 27))]),qo 29 (.bsl 133 2 [(.str ⟨#[]⟩),(.str ⟨#[]⟩)] 1 [(0,2,(.sl 28))]),qo 30 (.app 133 2 32 (.sl 22) (.sl 29)),qm 7 30] []))
 (.reg [qm 20 8,qk 21 .add 20 1,qm 8 21] []))))))
 (.seq (qr [qi 9 0]
 (.block 2 (.loop (.seq (qr [qm 31 9,qm 32 2,qo 33 (.len (.sl 32)),qb 34 .lss 31 33]
 (qd 34 .skip (.exit 2)))
 (.seq (.block 3 (qr [qm 37 1,qm 38 2,qm 39 9,qo 40 (.iad 2 (.sl 38) (.sl 39)),qf 41 0 40,ql 42 1 false 41,qo 43 (.call 131 [(.sl 37),(.sl 42)] []),qo 44 (.bin .eql (.sl 43) (.k (.str ⟨#[110,117,108,108]⟩)))]
 (qd 44 (.reg [qm 45 7,qm 46 2,qm 47 9,qo 48 (.iad 2 (.sl 46) (.sl 47)),qf 49 0 48,ql 50 1 false 49,qo 51 (.build [(.str ⟨#[]⟩),(.str ⟨#[]⟩)] [(0,1,(.sl 50))]),qo 52 (.bsl 133 2 [(.str ⟨#[]⟩),(.str ⟨#[]⟩)] 1 [(0,2,(.sl 51))]),qo 53 (.app 133 2 32 (.sl 45) (.sl 52)),qm 7 53] []) .skip)))
 (.reg [qm 35 9,qk 36 .add 35 1,qm 9 36] []))))))
 (qr [qm 54 7,qo 55 (.call 132 [.sl 54] []),qm 7 55]
 (qr [qo 56 (.bsl 85 12 [(.int .i64 0),(.int .i64 0),qN,qN,(.int .i64 0),(.str ⟨#[]⟩),(.int .i64 0),(.int .i64 0),qN,(.str ⟨#[]⟩),(.str ⟨#[]⟩),(.str ⟨#[]⟩)] 0 []),qm 10 56]
 (qr [qo 57 (.bsl 85 12 [(.int .i64 0),(.int .i64 0),qN,qN,(.int .i64 0),(.str ⟨#[]⟩),(.int .i64 0),(.int .i64 0),qN,(.str ⟨#[]⟩),(.str ⟨#[]⟩),(.str ⟨#[]⟩)] 0 []),qm 11 57]
 (.seq (qr [qi 12 0]
 (.block 4 (.loop (.seq (qr [qm 58 12,qm 59 7,qo 60 (.len (.sl 59)),qb 61 .lss 58 60]
 (qd 61 .skip (.exit 4)))
 (.seq (.block 5 (qr [qm 64 2,qm 65 7,qm 66 12,qo 67 (.iad 2 (.sl 65) (.sl 66)),qf 68 0 67,ql 69 1 false 68,qo 70 (.call 131 [(.sl 64),(.sl 69)] []),qm 13 70]
 (qr [qm 71 0,qm 72 7,qm 73 12,qo 74 (.iad 2 (.sl 72) (.sl 73)),qf 75 0 74,ql 76 1 false 75,qm 77 13,qo 78 (.build [(.int .i64 0),(.int .i64 0),qN,qN,(.int .i64 0),(.str ⟨#[]⟩),(.int .i64 0),(.int .i64 0),qN,(.str ⟨#[]⟩),(.str ⟨#[]⟩),(.str ⟨#[]⟩)] [(0,1,(.k (.int .i64 6))),(9,1,(.sl 71)),(10,1,(.sl 76)),(11,1,(.sl 77))]),qo 14 (.alloc [(.int .i64 0),(.int .i64 0),qN,qN,(.int .i64 0),(.str ⟨#[]⟩),(.int .i64 0),(.int .i64 0),qN,(.str ⟨#[]⟩),(.str ⟨#[]⟩),(.str ⟨#[]⟩)]),qe (.store 12 (.sl 14) (.sl 78))]
 (.block 6 (qr [qm 80 13,qo 81 (.bin .eql (.sl 80) (.k (.str ⟨#[110,117,108,108]⟩))),qm 79 81]
 (qd 79 (.reg [qm 82 10,ql 83 12 true 14,qo 84 (.bsl 85 12 [(.int .i64 0),(.int .i64 0),qN,qN,(.int .i64 0),(.str ⟨#[]⟩),(.int .i64 0),(.int .i64 0),qN,(.str ⟨#[]⟩),(.str ⟨#[]⟩),(.str ⟨#[]⟩)] 1 [(0,12,(.sl 83))]),qo 85 (.app 85 12 176 (.sl 82) (.sl 84)),qm 10 85] []) (qr [qm 87 13,qm 88 1,qm 89 7,qm 90 12,qo 91 (.iad 2 (.sl 89) (.sl 90)),qf 92 0 91,ql 93 1 false 92,qo 94 (.call 131 [(.sl 88),(.sl 93)] []),qb 95 .neq 87 94,qm 86 95]
 (qd 86 (.reg [qm 96 11,ql 97 12 true 14,qo 98 (.bsl 85 12 [(.int .i64 0),(.int .i64 0),qN,qN,(.int .i64 0),(.str ⟨#[]⟩),(.int .i64 0),(.int .i64 0),qN,(.str ⟨#[]⟩),(.str ⟨#[]⟩),(.str ⟨#[]⟩)] 1 [(0,12,(.sl 97))]),qo 99 (.app 85 12 176 (.sl 96) (.sl 98)),qm 11 99] []) .skip))))))))
 (.reg [qm 62 12,qk 63 .add 62 1,qm 12 63] []))))))
 (qr [qm 100 10,qm 101 11,qo 102 (.app 85 12 176 (.sl 100) (.sl 101)),qm 6 102]
 .ret)))))))))}
def F99:CFn:={nt:=22,nk:=0,own:=false,res:=[.tmp 4],body:=(
 qr [qo 2 (.box 2 (.sl 0)),qi 4 0]
 (.seq (qr [qi 5 0]
 (.block 0 (.loop (.seq (qr [qm 6 5,qf 7 1 2,ql 8 1 false 7,qo 9 (.len (.sl 8)),qb 10 .lss 6 9]
 (qd 10 .skip (.exit 0)))
 (.seq (.block 1 (qr [qf 13 1 2,ql 14 1 false 13,qm 15 5,qo 16 (.iad 5 (.sl 14) (.sl 15)),qf 17 0 16,ql 18 1 false 17,qm 19 1,qb 20 .eql 18 19]
 (qd 20 (qr [qm 21 5,qm 4 21]
 .ret) .skip)))
 (.reg [qm 11 5,qk 12 .add 11 1,qm 5 12] []))))))
 (qr [qi 4 (-1)]
 .ret)))}
def F100:CFn:={nt:=45,nk:=1,own:=false,res:=[.tmp 3],body:=(
 qr [qo 2 (.box 5 (.sl 0)),qi 3 0]
 (qr [ql 5 2 true 1,qf 6 0 2,ql 7 1 false 6,qo 8 (.call 101 [(.sl 5),(.sl 7)] []),qm 4 8]
 (.seq (qr [qm 9 4,qk 10 .geq 9 0,qm 11 10,⟨(some (11,true)),(some 12),.fad 1 (.sl 1)⟩,⟨(some (11,true)),(some 13),.load 1 false (.sl 12)⟩,⟨(some (11,true)),(some 14),.mv (.sl 4)⟩,⟨(some (11,true)),(some 15),.iad 5 (.sl 13) (.sl 14)⟩,⟨(some (11,true)),(some 16),.fad 1 (.sl 15)⟩,⟨(some (11,true)),(some 17),.load 1 false (.sl 16)⟩,⟨(some (11,true)),(some 18),.fad 1 (.sl 2)⟩,⟨(some (11,true)),(some 19),.load 1 false (.sl 18)⟩,⟨(some (11,true)),(some 20),.bin .eql (.sl 17) (.sl 19)⟩,qo 21 (.pick (.sl 11) (.sl 20) (.k (.bool false))),qm 22 21,⟨(some (22,true)),(some 23),.fad 1 (.sl 1)⟩,⟨(some (22,true)),(some 24),.load 1 false (.sl 23)⟩,⟨(some (22,true)),(some 25),.mv (.sl 4)⟩,⟨(some (22,true)),(some 26),.iad 5 (.sl 24) (.sl 25)⟩,⟨(some (22,true)),(some 27),.fad 2 (.sl 26)⟩,⟨(some (22,true)),(some 28),.load 1 false (.sl 27)⟩,⟨(some (22,true)),(some 29),.fad 2 (.sl 2)⟩,⟨(some (22,true)),(some 30),.load 1 false (.sl 29)⟩,⟨(some (22,true)),(some 31),.bin .eql (.sl 28) (.sl 30)⟩,qo 32 (.pick (.sl 22) (.sl 31) (.k (.bool false))),qm 33 32,⟨(some (33,true)),(some 34),.fad 1 (.sl 1)⟩,⟨(some (33,true)),(some 35),.load 1 false (.sl 34)⟩,⟨(some (33,true)),(some 36),.mv (.sl 4)⟩,⟨(some (33,true)),(some 37),.iad 5 (.sl 35) (.sl 36)⟩,⟨(some (33,true)),(some 38),.fad 3 (.sl 37)⟩,⟨(some (33,true)),(some 39),.load 1 false (.sl 38)⟩,⟨(some (33,true)),(some 40),.fad 3 (.sl 2)⟩,⟨(some (33,true)),(some 41),.load 1 false (.sl 40)⟩,⟨(some (33,true)),(some 42),.bin .eql (.sl 39) (.sl 41)⟩,qo 43 (.pick (.sl 33) (.sl 42) (.k (.bool false)))]
 (qd 43 (qr [qm 44 4,qm 3 44]
 .ret) .skip))
 (qr [qi 3 (-1)]
 .ret))))}
def F101:CFn:={nt:=21,nk:=0,own:=false,res:=[.tmp 4],body:=(
 qr [qo 2 (.box 2 (.sl 0)),qi 4 0]
 (.seq (qr [qf 7 1 2,ql 8 1 false 7,qo 9 (.len (.sl 8)),qi 10 0]
 (.block 0 (.loop (qr [qb 11 .lss 10 9]
 (.seq (qd 11 .skip (.exit 0))
 (.seq (.block 1 (qr [qm 12 10,qo 13 (.iad 5 (.sl 8) (.sl 10)),ql 14 5 true 13,qo 6 (.alloc [(.int .i64 0),(.str ⟨#[]⟩),(.int .i64 0),(.int .i64 0),qN]),qm 5 12,qe (.store 5 (.sl 6) (.sl 14))]
 (qr [qf 15 0 6,ql 16 1 false 15,qm 17 1,qb 18 .eql 16 17]
 (qd 18 (qr [qm 19 5,qm 4 19]
 .ret) .skip))))
 (.reg [qk 20 .add 10 1,qm 10 20] [])))))))
 (qr [qi 4 (-1)]
 .ret)))}
def F102:CFn:={nt:=26,nk:=0,own:=false,res:=[.tmp 4],body:=(
 qr [qc 4 (.bool false)]
 (.seq (qr [qm 6 0,qo 7 (.len (.sl 6)),qm 8 1,qo 9 (.len (.sl 8)),qb 10 .neq 7 9]
 (qd 10 (qr [qc 4 (.bool false)]
 .ret) .skip))
 (.seq (qr [qm 11 0,qo 12 (.len (.sl 11)),qi 13 0]
 (.block 0 (.loop (qr [qb 14 .lss 13 12]
 (.seq (qd 14 .skip (.exit 0))
 (.seq (.block 1 (qr [qm 15 13,qm 5 15]
 (qr [qm 16 0,qm 17 5,qo 18 (.iad 1 (.sl 16) (.sl 17)),ql 19 1 false 18,qm 20 1,qm 21 5,qo 22 (.iad 1 (.sl 20) (.sl 21)),ql 23 1 false 22,qb 24 .neq 19 23]
 (qd 24 (qr [qc 4 (.bool false)]
 .ret) .skip))))
 (.reg [qk 25 .add 13 1,qm 13 25] [])))))))
 (qr [qc 4 (.bool true)]
 .ret))))}
def F104:CFn:={nt:=76,nk:=0,own:=true,res:=[.tmp 6],body:=(
 qr [qc 6 qN]
 (qr [qc 7 qN]
 (.seq (qr [qm 18 1,qo 19 (.len (.sl 18)),qi 20 0]
 (.block 0 (.loop (qr [qb 21 .lss 20 19]
 (.seq (qd 21 .skip (.exit 0))
 (.seq (.block 1 (qr [qo 22 (.iad 2 (.sl 18) (.sl 20)),ql 23 2 true 22,qo 9 (.alloc [(.str ⟨#[]⟩),(.str ⟨#[]⟩)]),qe (.store 2 (.sl 9) (.sl 23))]
 (.reg [qm 24 7,qf 25 0 9,ql 26 1 false 25,qo 27 (.call 133 [(.sl 24),(.sl 26)] []),qm 7 27] [])))
 (.reg [qk 28 .add 20 1,qm 20 28] [])))))))
 (.seq (qr [qm 29 2,qo 30 (.len (.sl 29)),qi 31 0]
 (.block 2 (.loop (qr [qb 32 .lss 31 30]
 (.seq (qd 32 .skip (.exit 2))
 (.seq (.block 3 (qr [qo 33 (.iad 2 (.sl 29) (.sl 31)),ql 34 2 true 33,qo 11 (.alloc [(.str ⟨#[]⟩),(.str ⟨#[]⟩)]),qe (.store 2 (.sl 11) (.sl 34))]
 (.reg [qm 35 7,qf 36 0 11,ql 37 1 false 36,qo 38 (.call 133 [(.sl 35),(.sl 37)] []),qm 7 38] [])))
 (.reg [qk 39 .add 31 1,qm 31 39] [])))))))
 (qr [qc 12 qN]
 (.seq (qr [qo 40 (.bsl 4 1 [(.bool false)] 2 [(0,1,(.k (.bool true))),(1,1,(.k (.bool false)))]),qo 41 (.len (.sl 40)),qi 42 0]
 (.block 4 (.loop (qr [qb 43 .lss 42 41]
 (.seq (qd 43 .skip (.exit 4))
 (.seq (.block 5 (qr [qo 44 (.iad 1 (.sl 40) (.sl 42)),ql 45 1 false 44,qm 14 45]
 (qr [qm 46 7,qo 47 (.len (.sl 46)),qi 48 0]
 (.block 6 (.loop (qr [qb 49 .lss 48 47]
 (.seq (qd 49 .skip (.exit 6))
 (.seq (.block 7 (qr [qo 50 (.iad 1 (.sl 46) (.sl 48)),ql 51 1 false 50,qm 16 51]
 (qr [qm 52 2,qm 53 16,qo 54 (.call 134 [(.sl 52),(.sl 53)] []),qm 17 54]
 (qr [qm 55 17,qm 56 1,qm 57 16,qo 58 (.call 134 [(.sl 56),(.sl 57)] []),qb 59 .neq 55 58,qm 60 59,⟨(some (60,true)),(some 61),.mv (.sl 17)⟩,⟨(some (60,true)),(some 62),.bin .eql (.sl 61) (.k (.str ⟨#[110,117,108,108]⟩))⟩,⟨(some (60,true)),(some 63),.mv (.sl 14)⟩,⟨(some (60,true)),(some 64),.beq false (.sl 62) (.sl 63)⟩,qo 65 (.pick (.sl 60) (.sl 64) (.k (.bool false)))]
 (qd 65 (.reg [qm 66 12,qm 67 0,qm 68 16,qm 69 17,qo 70 (.build [(.int .i64 0),(.int .i64 0),qN,qN,(.int .i64 0),(.str ⟨#[]⟩),(.int .i64 0),(.int .i64 0),qN,(.str ⟨#[]⟩),(.str ⟨#[]⟩),(.str ⟨#[]⟩)] [(0,1,(.k (.int .i64 6))),(9,1,(.sl 67)),(10,1,(.sl 68)),(11,1,(.sl 69))]),qo 71 (.bsl 85 12 [(.int .i64 0),(.int .i64 0),qN,qN,(.int .i64 0),(.str ⟨#[]⟩),(.int .i64 0),(.int .i64 0),qN,(.str ⟨#[]⟩),(.str ⟨#[]⟩),(.str ⟨#[]⟩)] 1 [(0,12,(.sl 70))]),qo 72 (.app 85 12 176 (.sl 66) (.sl 71)),qm 12 72] []) .skip)))))
 (.reg [qk 73 .add 48 1,qm 48 73] [])))))))))
 (.reg [qk 74 .add 42 1,qm 42 74] [])))))))
 (qr [qm 75 12,qm 6 75]
 .ret)))))))}
def F105:CFn:={nt:=5,nk:=0,own:=false,res:=[.tmp 2],body:=(
 qr [qc 2 (.str ⟨#[]⟩)]
 (qr [qm 3 0,qo 4 (.call 135 [(.sl 3),(.k (.int .i64 10))] []),qm 2 4]
 .ret))}
def F131:CFn:={nt:=24,nk:=0,own:=false,res:=[.tmp 4],body:=(
 qr [qc 4 (.str ⟨#[]⟩)]
 (.seq (qr [qi 5 0]
 (.block 0 (.loop (.seq (qr [qm 6 5,qm 7 0,qo 8 (.len (.sl 7)),qb 9 .lss 6 8]
 (qd 9 .skip (.exit 0)))
 (.seq (.block 1 (qr [qm 12 0,qm 13 5,qo 14 (.iad 2 (.sl 12) (.sl 13)),qf 15 0 14,ql 16 1 false 15,qm 17 1,qb 18 .eql 16 17]
 (qd 18 (qr [qm 19 0,qm 20 5,qo 21 (.iad 2 (.sl 19) (.sl 20)),qf 22 1 21,ql 23 1 false 22,qm 4 23]
 .ret) .skip)))
 (.reg [qm 10 5,qk 11 .add 10 1,qm 5 11] []))))))
 (qr [qc 4 (.str ⟨#[110,117,108,108]⟩)]
 .ret)))}
def F132:CFn:={nt:=51,nk:=0,own:=false,res:=[.tmp 2],body:=(
 qr [qc 2 qN]
 (qr [qo 7 (.bsl 133 2 [(.str ⟨#[]⟩),(.str ⟨#[]⟩)] 0 []),qm 3 7]
 (.seq (qr [qi 4 0]
 (.block 0 (.loop (.seq (qr [qm 8 4,qm 9 0,qo 10 (.len (.sl 9)),qb 11 .lss 8 10]
 (qd 11 .skip (.exit 0)))
 (.seq (.block 1 (qr [qm 14 3,qo 15 (.len (.sl 14)),qm 5 15]
 (.seq (.block 2 (.loop (.seq (qr [qm 16 5,qk 17 .gtr 16 0,qm 18 17,⟨(some (18,true)),(some 19),.mv (.sl 3)⟩,⟨(some (18,true)),(some 20),.mv (.sl 5)⟩,⟨(some (18,true)),(some 21),.bin .sub (.sl 20) (.k (.int .i64 1))⟩,⟨(some (18,true)),(some 22),.iad 2 (.sl 19) (.sl 21)⟩,⟨(some (18,true)),(some 23),.fad 0 (.sl 22)⟩,⟨(some (18,true)),(some 24),.load 1 false (.sl 23)⟩,⟨(some (18,true)),(some 25),.mv (.sl 0)⟩,⟨(some (18,true)),(some 26),.mv (.sl 4)⟩,⟨(some (18,true)),(some 27),.iad 2 (.sl 25) (.sl 26)⟩,⟨(some (18,true)),(some 28),.fad 0 (.sl 27)⟩,⟨(some (18,true)),(some 29),.load 1 false (.sl 28)⟩,⟨(some (18,true)),(some 30),.bin .gtr (.sl 24) (.sl 29)⟩,qo 31 (.pick (.sl 18) (.sl 30) (.k (.bool false)))]
 (qd 31 .skip (.exit 2)))
 (.block 3 (.reg [qm 32 5,qk 33 .sub 32 1,qm 5 33] [])))))
 (qr [qo 34 (.bsl 133 2 [(.str ⟨#[]⟩),(.str ⟨#[]⟩)] 0 []),qm 35 3,qm 36 5,qo 37 (.slc 2 (.sl 35) (some (.sl 36)) none),qo 38 (.apc 133 2 32 (.sl 34) (.sl 37)),qm 6 38]
 (.reg [qm 39 3,qm 40 5,qo 41 (.slc 2 (.sl 39) none (some (.sl 40))),qm 42 0,qm 43 4,qo 44 (.iad 2 (.sl 42) (.sl 43)),ql 45 2 true 44,qo 46 (.bsl 133 2 [(.str ⟨#[]⟩),(.str ⟨#[]⟩)] 1 [(0,2,(.sl 45))]),qo 47 (.apc 133 2 32 (.sl 41) (.sl 46)),qm 48 6,qo 49 (.apc 133 2 32 (.sl 47) (.sl 48)),qm 3 49] [])))))
 (.reg [qm 12 4,qk 13 .add 12 1,qm 4 13] []))))))
 (qr [qm 50 3,qm 2 50]
 .ret))))}
def F133:CFn:={nt:=52,nk:=0,own:=false,res:=[.tmp 4],body:=(
 qr [qc 4 qN]
 (qr [qi 5 0]
 (.seq (.block 0 (.loop (.seq (qr [qm 7 5,qm 8 0,qo 9 (.len (.sl 8)),qb 10 .lss 7 9,qm 11 10,⟨(some (11,true)),(some 12),.mv (.sl 0)⟩,⟨(some (11,true)),(some 13),.mv (.sl 5)⟩,⟨(some (11,true)),(some 14),.iad 1 (.sl 12) (.sl 13)⟩,⟨(some (11,true)),(some 15),.load 1 false (.sl 14)⟩,⟨(some (11,true)),(some 16),.mv (.sl 1)⟩,⟨(some (11,true)),(some 17),.bin .lss (.sl 15) (.sl 16)⟩,qo 18 (.pick (.sl 11) (.sl 17) (.k (.bool false)))]
 (qd 18 .skip (.exit 0)))
 (.block 1 (.reg [qm 19 5,qk 20 .add 19 1,qm 5 20] [])))))
 (.seq (qr [qm 21 5,qm 22 0,qo 23 (.len (.sl 22)),qb 24 .lss 21 23,qm 25 24,⟨(some (25,true)),(some 26),.mv (.sl 0)⟩,⟨(some (25,true)),(some 27),.mv (.sl 5)⟩,⟨(some (25,true)),(some 28),.iad 1 (.sl 26) (.sl 27)⟩,⟨(some (25,true)),(some 29),.load 1 false (.sl 28)⟩,⟨(some (25,true)),(some 30),.mv (.sl 1)⟩,⟨(some (25,true)),(some 31),.bin .eql (.sl 29) (.sl 30)⟩,qo 32 (.pick (.sl 25) (.sl 31) (.k (.bool false)))]
 (qd 32 (qr [qm 33 0,qm 4 33]
 .ret) .skip))
 (qr [qm 34 0,qo 35 (.len (.sl 34)),qk 36 .add 35 1,qo 37 (.mk0 9 1 16 (.k (.int .i64 0)) (.sl 36)),qm 6 37]
 (qr [qm 38 6,qm 39 0,qm 40 5,qo 41 (.slc 1 (.sl 39) none (some (.sl 40))),qo 42 (.app 9 1 16 (.sl 38) (.sl 41)),qm 6 42]
 (qr [qm 43 6,qm 44 1,qo 45 (.bsl 9 1 [(.str ⟨#[]⟩)] 1 [(0,1,(.sl 44))]),qo 46 (.app 9 1 16 (.sl 43) (.sl 45)),qm 6 46]
 (qr [qm 47 6,qm 48 0,qm 49 5,qo 50 (.slc 1 (.sl 48) (some (.sl 49)) none),qo 51 (.app 9 1 16 (.sl 47) (.sl 50)),qm 4 51]
 .ret))))))))}
def F134:CFn:={nt:=20,nk:=0,own:=false,res:=[.tmp 4],body:=(
 qr [qc 4 (.str ⟨#[]⟩)]
 (.seq (qr [qm 7 0,qo 8 (.len (.sl 7)),qi 9 0]
 (.block 0 (.loop (qr [qb 10 .lss 9 8]
 (.seq (qd 10 .skip (.exit 0))
 (.seq (.block 1 (qr [qo 11 (.iad 2 (.sl 7) (.sl 9)),ql 12 2 true 11,qo 6 (.alloc [(.str ⟨#[]⟩),(.str ⟨#[]⟩)]),qe (.store 2 (.sl 6) (.sl 12))]
 (qr [qf 13 0 6,ql 14 1 false 13,qm 15 1,qb 16 .eql 14 15]
 (qd 16 (qr [qf 17 1 6,ql 18 1 false 17,qm 4 18]
 .ret) .skip))))
 (.reg [qk 19 .add 9 1,qm 9 19] [])))))))
 (qr [qc 4 (.str ⟨#[110,117,108,108]⟩)]
 .ret)))}
def T:Nat→Option CFn
 |8=>some F8
 |10=>some F10
 |13=>some F13
 |14=>some F14
 |38=>some F38
 |39=>some F39
 |40=>some F40
 |41=>some F41
 |42=>some F42
 |44=>some F44
 |45=>some F45
 |46=>some F46
 |48=>some F48
 |49=>some F49
 |59=>some F59
 |60=>some F60
 |61=>some F61
 |66=>some F66
 |68=>some F68
 |79=>some F79
 |80=>some F80
 |81=>some F81
 |82=>some F82
 |83=>some F83
 |84=>some F84
 |85=>some F85
 |86=>some F86
 |87=>some F87
 |88=>some F88
 |89=>some F89
 |90=>some F90
 |93=>some F93
 |94=>some F94
 |98=>some F98
 |103=>some F103
 |108=>some F108
 |116=>some F116
 |117=>some F117
 |118=>some F118
 |119=>some F119
 |120=>some F120
 |121=>some F121
 |122=>some F122
 |123=>some F123
 |124=>some F124
 |125=>some F125
 |126=>some F126
 |127=>some F127
 |129=>some F129
 |130=>some F130
 |165=>some F165
 |166=>some F166
 |167=>some F167
 |168=>some F168
 |169=>some F169
 |170=>some F170
 |171=>some F171
 |172=>some F172
 |173=>some F173
 |176=>some F176
 |186=>some F186
 |188=>some F188
 |191=>some F191
 |192=>some F192
 |200=>some F200
 |201=>some F201
 |209=>some F209
 |210=>some F210
 |211=>some F211
 |212=>some F212
 |213=>some F213
 |214=>some F214
 |215=>some F215
 |216=>some F216
 |217=>some F217
 |218=>some F218
 |219=>some F219
 |220=>some F220
 |221=>some F221
 |222=>some F222
 |223=>some F223
 |224=>some F224
 |225=>some F225
 |226=>some F226
 |227=>some F227
 |231=>some F231
 |232=>some F232
 |233=>some F233
 |234=>some F234
 |235=>some F235
 |236=>some F236
 |237=>some F237
 |238=>some F238
 |240=>some F240
 |241=>some F241
 |242=>some F242
 |244=>some F244
 |245=>some F245
 |248=>some F248
 |1000050=>some FB50
 |1000051=>some FB51
 |1000057=>some FB57
 |1000058=>some FB58
 |1000020=>some FB20
 |4=>some F4
 |17=>some F17
 |18=>some F18
 |19=>some F19
 |21=>some F21
 |54=>some F54
 |55=>some F55
 |56=>some F56
 |95=>some F95
 |96=>some F96
 |97=>some F97
 |99=>some F99
 |100=>some F100
 |101=>some F101
 |102=>some F102
 |104=>some F104
 |105=>some F105
 |131=>some F131
 |132=>some F132
 |133=>some F133
 |134=>some F134
 |_=>none
def Tab(cf:CallF):Prop:=∀ f F,T f=some F→Knows cf f F
theorem pmn:
  (∀ {k:IntKind} {a b:Int},binP .lss (.int k a) (.int k b)=some (.bool (decide (a<b))))∧(∀ {k:IntKind} {a b:Int},binP .leq (.int k a) (.int k b)=some (.bool (decide (a≤b))))∧
  (∀ {k:IntKind} {a b:Int},binP .gtr (.int k a) (.int k b)=some (.bool (decide (b<a))))∧(∀ {k:IntKind} {a b:Int},binP .geq (.int k a) (.int k b)=some (.bool (decide (b≤a))))∧
  (∀ {k:IntKind} {a b:Int},binP .eql (.int k a) (.int k b)=some (.bool (decide (a=b))))∧(∀ {k:IntKind} {a b:Int},binP .neq (.int k a) (.int k b)=some (.bool (decide (a≠b))))∧
  (∀ {k:IntKind} {a b:Int},binP .add (.int k a) (.int k b)=some (.int k (k.wrap (a+b))))∧(∀ {k:IntKind} {a b:Int},binP .sub (.int k a) (.int k b)=some (.int k (k.wrap (a-b))))∧(∀ {k:IntKind} {a b:Int},binP .mul (.int k a) (.int k b)=some (.int k (k.wrap (a*b))))∧
  (∀ {s t:List UInt8},binP .eql (S s) (S t)=some (.bool (decide (s=t))))∧(∀ {s t:List UInt8},binP .neq (S s) (S t)=some (.bool (decide (s≠t))))∧(∀ {s t:List UInt8},binP .lss (S s) (S t)=some (.bool (sLt s t)))∧
  (∀ {s t:List UInt8},binP .geq (S s) (S t)=some (.bool !(sLt s t)))∧(∀ {s t:List UInt8},binP .gtr (S s) (S t)=some (.bool !(sLt s t||decide (s=t))))∧(∀ {s t:List UInt8},binP .leq (S s) (S t)=some (.bool (sLt s t||decide (s=t))))∧
  (∀ {s t:List UInt8},s.length+t.length≤9223372036854775807→binP .add (S s) (S t)=some (S (s++t)))∧
  (∀ {x:Bool},unP .not (.bool x)=some (.bool !x))∧(∀ {k:IntKind} {a:Int},unP .neg (.int k a)=some (.int k (k.wrap (-a))))∧
  (∀ {a:Int},-9223372036854775808≤a→a≤9223372036854775807→IntKind.i64.wrap a=a)∧(∀ {a:Int},0≤a→a≤255→IntKind.u8.wrap a=a)∧
  (∀ {l:List UInt8} {j:Int} {st:St},0≤j→j.toNat<l.length→sidxP (S l) (I j) st=some (U (cI l j.toNat),st))∧
  (∀ {l:List UInt8} {j:Int} {st:St},0≤j→j≤(l.length:Int)→sslP (S l) (some (I j)) none st=some (S (l.drop j.toNat),st))∧
  (∀ {l:List UInt8} {j:Int} {st:St},0≤j→j≤(l.length:Int)→sslP (S l) none (some (I j)) st=some (S (l.take j.toNat),st))∧
  (∀ {l:List UInt8} {a b:Int} {st:St},0≤a→a≤b→b≤(l.length:Int)→sslP (S l) (some (I a)) (some (I b)) st=some (S ((l.take b.toNat).drop a.toNat),st))∧
  (∀ {sz n:Nat} {cs:List PV} {t:Tok} {j:Int} {st:St},0≤j→j<(n:Int)→cs.length=n*sz→iadP sz (.list n cs t) (I j) st=some (.iptr cs (j.toNat*sz) (t.elt n),st))∧
  (∀ {sz e sz' s n:Nat} {j:Int} {st:St},0≤j→j<(n:Int)→iadP sz (.osl e sz' s n) (I j) st=some (.ptr s (j.toNat*sz),st))∧
  (endOk .ret↔True)∧(endOk .go↔True)∧
  (∀ {ns:List Nat} {c:List PV} {cs:List (List PV)},(stB ns (c::cs)).objs 0=some c)∧(∀ {n:Nat},Tok.elt n .no= .no):=
 ⟨b_lss,b_leq,b_gtr,b_geq,b_eql,b_neq,b_add,b_sub,b_mul,s_eql,s_neq,s_lss,s_geq,s_gtr,s_leq,s_add,u_not,u_neg,wrap_i64,wrap_u8,sidxP_ok,sslP_lo,sslP_hi,sslP_both,iadP_list,iadP_osl,Iff.rfl,Iff.rfl,rfl,rfl⟩
theorem pa:type_of% (And.intro pms (And.intro pmk (And.intro pmo pmo2))):=And.intro pms (And.intro pmk (And.intro pmo pmo2))
theorem pb:type_of% (And.intro pmv (And.intro pmp (And.intro pmq (And.intro pmb pmn)))):=And.intro pmv (And.intro pmp (And.intro pmq (And.intro pmb pmn)))
section
variable {cf:CallF} {f:Nat} {F:CFn} {as:List PV} {r q:PV} {t t2:Nat} {st:St}
theorem c_val(K:Tab cf)(hT:T f=some F)(hres:F.res=[.tmp t])(hown:F.own=false)(hnt:as.length≤F.nt)(has:∀ p∈as,plainV p)(hr:bare r)(N:Nat)(h:Wp cf N F.body (frame as,stB [] []) (fun e y=>endOk e∧y.1 t=r)):callP cf f as [] st=some (r,st):=
 call_bare has hr (fn_val (K f F hT) hres hown hnt hr.plain N h)
theorem c_ptr(K:Tab cf)(hT:T f=some F)(hres:F.res=[.tmp t])(hown:F.own=false)(hnt:as.length+1≤F.nt)(hnk:1≤F.nk)(has:∀ p∈as,plainV p)(hr:bare r){s:Nat}{c c':List PV}(hs:st.objs s=some c)(hc:plainVs c)(hc':bares c')(N:Nat)
  (h:Wp cf N F.body (frame (.ptr 0 0::as),stB [] [c]) (fun e y=>endOk e∧y.1 t=r∧y.2.objs 0=some c')):callP cf f (.ptr s 0::as) [] st=some (r,setO st s c'):=
 call_ptr hs hc hc' has hr (fn_ptr (K f F hT) hres hown hnt hnk hr.plain hc'.plain N h)
end
mutual
theorem ren_strip(f:Nat→Option Nat)(s:Bool):∀ p:PV,ren f s (ren (fun _=>none) true p)=ren (fun _=>none) true p
 | .list n cs t=>by
  simp only[ren,rens_strips f s cs]
  cases t<;>rfl
 | .iptr cs o t=>by
  simp only[ren,rens_strips f s cs]
  cases t<;>rfl
 | .agg cs=>by simp only[ren,rens_strips f s cs]
 | .tup cs=>by simp only[ren,rens_strips f s cs]
 | .fn g cs=>by simp only[ren,rens_strips f s cs]
 | .any| .hole| .int _ _| .bool _| .str _| .nilp| .nili| .err| .ptr _ _| .osl _ _ _ _| .mp _=>rfl
theorem rens_strips(f:Nat→Option Nat)(s:Bool):∀ ps:List PV,rens f s (rens (fun _=>none) true ps)=rens (fun _=>none) true ps
 | []=>rfl
 |p::ps=>by simp only[rens,ren_strip f s p,rens_strips f s ps]
end
def notRow:PV→Bool
 | .osl .. =>false
 | .ptr .. =>false
 |_=>true
theorem meltAll_all(nk:Nat)(st:St):∀ (ps:List PV),(∀ p∈ps,notRow p=true)→meltAll nk ps st=(ps,st)
 | [],_=>by rw[meltAll]
 |p::ps,h=>by
  have ih:=meltAll_all nk st ps fun q hq=>h q (by simp[hq])
  have hp:=h p (by simp)
  cases p<;>first|exact absurd hp Bool.false_ne_true|(rw[meltAll,ih];intros;simp_all)
def goesOut:List PV→Bool
 | []=>true
 |p::ps=>np p && notRow p && goesOut ps
theorem goesOut_all:∀ {ps:List PV},goesOut ps=true→(∀ p∈ps,notRow p=true)∧nps ps=true
 | [],_=>⟨by simp,rfl⟩
 |p::ps,h=>by
  simp only[goesOut,Bool.and_eq_true]at h
  obtain⟨h1,h2⟩:=goesOut_all h.2
  refine⟨fun q hq=>?_,?_⟩
  ·rcases List.mem_cons.1 hq with rfl|hq
   ·exact h.1.2
   ·exact h1 q hq
  have a:off (fun _=>true) p=true:=h.1.1
  have b:offs (fun _=>true) ps=true:=h2
  simp only[nps,offs,a,b,Bool.and_self]
theorem np_oneOf{ps:List PV}(h:goesOut ps=true):np (oneOf ps)=true:=by
 have h2:=(goesOut_all h).2
 match ps with
 | []=>rfl
 | [p]=>simp only[goesOut,Bool.and_eq_true]at h;exact h.1.1
 |p::q::ps=>exact h2
theorem finish_gen{F:CFn}{n:Nat}{fr:Fr}{st:St}{ps0:List PV}{cs0:List (List PV)}(hown:F.own=false)(h:ressP fr st F.res=some ps0)(hp:goesOut ps0=true)(hcs:getAll st (List.range n)=some cs0)(hc:cs0.all nps=true):
  finish F n fr st=some (strip (oneOf ps0),[],cs0.map strips):=by
 simp only[finish,h,hcs,meltAll_all F.nk st ps0 (goesOut_all hp).1,np_oneOf hp,hc,Bool.and_self,if_true,sealP,hown,Bool.false_and,Bool.false_eq_true,if_false]
def consO:Option PV→Option (List PV)→Option (List PV)
 |some p,some ps=>some (p::ps)
 |_,_=>none
def lodP(cs:Option (List PV))(off sz:Nat)(ag:Bool):Option PV:=match cs with
 |some cs=>partP cs off sz ag
 |none=>none
def celP(p:PV)(sz:Nat)(ag:Bool)(st:St):Option PV:=match p with
 | .ptr s off=>lodP (st.objs s) off sz ag
 | .iptr cs off _=>partP cs off sz ag
 |_=>none
def outO(Q:PV→List PV→Prop):Option (List PV)→Option (List PV)→Prop
 |some ps,some c=>goesOut ps=true∧nps c=true∧Q (strip (oneOf ps)) (strips c)
 |_,_=>False
def Ends(rs:List CRes)(Q:PV→List PV→Prop)(e:Ex)(y:Fr×St):Prop:=endOk e∧outO Q (ressP y.1 y.2 rs) (y.2.objs 0)
def EndsV(rs:List CRes)(Q:PV→Prop)(e:Ex)(y:Fr×St):Prop:=endOk e∧outO (fun p _=>Q p) (ressP y.1 y.2 rs) (some [])
def setF(st:St)(v:Nat):St:={st with fl:=v}
section
variable {cf:CallF} {f:Nat} {F:CFn} {as:List PV} {st:St} {rs:List CRes}
theorem keysOf_one{s:Nat}(h:as.all plainArg=true):keysOf (.ptr s 0::as)=some [s]:=by
 simp only[keysOf,keysOf_plain h]
 simp
theorem handOn_one{s:Nat}(h:as.all plainArg=true):handOn [] [] 0 0 (.ptr s 0::as)= .ptr 0 0::as.map strip:=by
 simp only[handOn,handOn_plain _ _ h]
theorem c_ptrE(K:Tab cf)(hT:T f=some F)(hres:F.res=rs)(hown:F.own=false)(hnt:as.length+1≤F.nt)(hnk:1≤F.nk)(has:∀ p∈as,plainV p){s:Nat}{c:List PV}(hs:st.objs s=some c)(hc:plainVs c)(N:Nat){Q:PV→List PV→Prop}
  (h:Wp cf N F.body (frame (.ptr 0 0::as),stB [] [c]) (Ends rs Q)):∃ r c',Q r c'∧∃ fl,callP cf f (.ptr s 0::as) [] st=some (r,setF (setO st s c') fl):=by
 obtain⟨e,⟨fr,s1⟩,hev,he,ho⟩:=h
 obtain⟨h1,h2⟩:=plainVs_arg has
 subst hres
 revert ho
 generalize hps:ressP fr s1 F.res=o1
 generalize hcc:s1.objs 0=o2
 intro ho
 match o1,o2,ho with
 |some ps0,some c1,ho=>
  obtain⟨hp,hn,hQ⟩:=ho
  have hcs:getAll s1 (List.range [c].length)=some [c1]:=by
   have:List.range [c].length=[0]:=rfl
   rw[this];simp only[getAll,hcc]
  have hf:=finish_gen (n:=[c].length) hown hps hp hcs (by simp[hn])
  have hrun:runFn cf N F (.ptr 0 0::as) [] [c]=some (strip (oneOf ps0),[],[strips c1]):=by
   unfold runFn
   rw[if_pos ⟨by simpa using hnt,by simpa using hnk⟩,hev]
   cases e with
   |go=>exact hf
   |ret=>exact hf
   |exit i=>exact he.elim
  have hcf:=K f F hT N _ _ _ _ hrun
  refine⟨_,_,hQ,(if(closed (strip (oneOf ps0)) && [strips c1].all closeds)||freeC (.ptr s 0::as) [c]then st.fl else st.nx),?_⟩
  ·simp only[callP,keysOf_one h1,getAll,hs,handOn_one h1,h2,List.map_cons,List.map_nil,hc.2.1,hcf,List.length_cons,List.length_nil,if_true]
   congr 1
   refine Prod.ext (ren_strip _ _ _) ?_
   have hr:rens (fun k=>some (st.nx+k)) false (strips c1)=strips c1:=rens_strips _ _ _
   simp only[hr]
   rfl
theorem keysOf_last{a:PV}{s:Nat}(h:plainArg a=true):keysOf [a,.ptr s 0]=some [s]:=by
 simp only[plainArg,Bool.and_eq_true]at h
 cases a<;>simp_all [keysOf]
theorem handOn_last{a:PV}{s:Nat}(h:plainArg a=true):handOn [] [] 0 0 [a,.ptr s 0]=[strip a,.ptr 0 0]:=by
 cases a<;>first|(simp[plainArg]at h;done)|simp[handOn]
mutual
theorem tf_bare:∀ (p:PV),strip p=p→tf (fun _=>true) p=true
 | .list n cs t,h=>by
  simp only[strip,ren_list]at h
  injection h with _ h1 h2
  have:=tfs_bares cs h1
  cases t<;>simp_all [tf,Tok.free,Tok.of,Tok.ren]
 | .iptr cs o t,h=>by
  simp only[strip,ren_iptr]at h
  injection h with h1 _ h2
  have:=tfs_bares cs h1
  cases t<;>simp_all [tf,Tok.free,Tok.of,Tok.ren]
 | .agg cs,h=>by
  simp only[strip,ren]at h
  injection h with h1
  simp[tf,tfs_bares cs h1]
 | .tup cs,h=>by
  simp only[strip,ren]at h
  injection h with h1
  simp[tf,tfs_bares cs h1]
 | .fn g cs,h=>by
  simp only[strip,ren]at h
  injection h with _ h1
  simp[tf,tfs_bares cs h1]
 | .ptr _ _,_=>rfl
 | .osl _ _ _ _,_=>rfl
 | .mp _,_=>rfl
 | .any,_=>rfl
 | .hole,_=>rfl
 | .int _ _,_=>rfl
 | .bool _,_=>rfl
 | .str _,_=>rfl
 | .nilp,_=>rfl
 | .nili,_=>rfl
 | .err,_=>rfl
theorem tfs_bares:∀ (ps:List PV),strips ps=ps→tfs (fun _=>true) ps=true
 | [],_=>rfl
 |p::ps,h=>by
  simp only[strips,rens]at h
  injection h with h1 h2
  simp[tfs,tf_bare p h1,tfs_bares ps h2]
end
theorem c_ptrX{t:Nat}(K:Tab cf)(hT:T f=some F)(hres:F.res=[.tmp t])(hown:F.own=false)(hnt:2≤F.nt)(hnk:1≤F.nk){a r:PV}(ha:plainV a)(hr:bare r){s:Nat}{c:List PV}(hs:st.objs s=some c)(hc:plainVs c)(N:Nat)
  (h:Wp cf N F.body (frame [a,.ptr 0 0],stB [] [c]) (fun e y=>endOk e∧y.1 t=r∧y.2.objs 0=some c)):callP cf f [a,.ptr s 0] [] st=some (r,st):=by
 obtain⟨p1,p2⟩:=plainVs_arg (ps:=[a]) (by simpa using ha)
 have p1:plainArg a=true:=by simpa using p1
 have p2:strip a=a:=by simpa using p2
 have hcf:cf f [a,.ptr 0 0] [] [c]=some (r,[],[c]):=K f F hT N _ [] [c] _ (run_of_wp h (by simpa using hnt) hnk fun e y hq=>⟨hq.1,finish_val (cs:=[c]) hres hown (by
  have:List.range [c].length=[0]:=rfl
  rw[this];simp only[getAll,hq.2.2]) (by simpa using hc) ⟨hr.1,hr.2.1,hr.2.2.2.1,hr.2.2.2.2⟩ hq.2.1⟩)
 have hfree:freeC [a,.ptr s 0] [c]=true:=by
  simp only[freeC,List.all_cons,List.all_nil,tf,tf_bare a p2,tfs_bares c hc.2.1,List.isEmpty_cons,Bool.not_false,Bool.and_self]
 simp only[callP,keysOf_last p1,getAll,hs,handOn_last p1,p2,List.map_cons,List.map_nil,hc.2.1,hcf,List.length_cons,List.length_nil,if_true,hfree,Bool.or_true]
 congr 1
 refine Prod.ext (hr.2.2.2.1 _ _) ?_
 ·have hrr:rens (fun k=>some (st.nx+k)) false c=c:=by
   exact hc.2.2 _ _
  simp only[hrr,setAll]
  have ho:(fun k=>if k=s then some c else st.objs k)=st.objs:=by
   funext k
   split
   ·rename_i e;rw[e,hs]
   ·rfl
  rw[ho]
  rfl
theorem c_valE(K:Tab cf)(hT:T f=some F)(hres:F.res=rs)(hown:F.own=false)(hnt:as.length≤F.nt)(has:∀ p∈as,plainV p)(N:Nat){Q:PV→Prop}
  (h:Wp cf N F.body (frame as,stB [] []) (EndsV rs Q)):∃ r,Q r∧∃ fl,callP cf f as [] st=some (r,setF st fl):=by
 obtain⟨e,⟨fr,s1⟩,hev,he,ho⟩:=h
 obtain⟨h1,h2⟩:=plainVs_arg has
 subst hres
 revert ho
 generalize hps:ressP fr s1 F.res=o1
 intro ho
 match o1,ho with
 |some ps0,ho=>
  obtain⟨hp,-,hQ⟩:=ho
  have hf:=finish_gen (n:=0) (cs0:=[]) hown hps hp rfl rfl
  have hrun:runFn cf N F as [] []=some (strip (oneOf ps0),[],[]):=by
   unfold runFn
   rw[if_pos ⟨hnt,Nat.zero_le _⟩,hev]
   cases e with
   |go=>exact hf
   |ret=>exact hf
   |exit i=>exact he.elim
  have hcf:=K f F hT N _ _ _ _ hrun
  refine⟨_,hQ,(if closed (strip (oneOf ps0))then st.fl else st.nx),?_⟩
  ·rw[callP_plain h1 (by rw[h2];exact hcf)]
   congr 1
   refine Prod.ext (ren_strip _ _ _) rfl
theorem RunsTo_E{o:Option (PV×St)}{mk:PV→St→Fr×St}{A:Fr×St→Prop}{Q:PV→List PV→Prop}{m:List PV→Nat→St}(h:∃ r c',Q r c'∧∃ fl,o=some (r,m c' fl))(k:∀ r c' fl,Q r c'→A (mk r (m c' fl))):RunsTo o mk A:=by
 obtain⟨r,c',hQ,fl,rfl⟩:=h
 exact⟨_,_,rfl,k r c' fl hQ⟩
theorem RunsTo_EV{o:Option (PV×St)}{mk:PV→St→Fr×St}{A:Fr×St→Prop}{Q:PV→Prop}{m:Nat→St}(h:∃ r,Q r∧∃ fl,o=some (r,m fl))(k:∀ r fl,Q r→A (mk r (m fl))):RunsTo o mk A:=by
 obtain⟨r,hQ,fl,rfl⟩:=h
 exact⟨_,_,rfl,k r fl hQ⟩
end
def Gr(e nx:Nat)(cnt:Nat→Nat)(n:Nat):Tok→Prop
 | .nil=>n=0
 | .full e'=>e'=e∧n=0
 | .own k e'=>k<nx∧cnt k=n∧e'=e
 |_=>False
def appT(e:Nat)(t:Tok)(st:St):Tok:=match t with
 | .own k _=> .own k e
 |_=> .own st.nx e
def appS(t:Tok)(st:St)(n:Nat):St:=match t with
 | .own k _=>st.count k n
 |_=>st.more [n]
def appP(e sz bytes:Nat)(x y:PV)(st:St):Option (PV×St):=match x,y with
 | .list n cs t,.list m ds _=>
  if can st n t=true∧cs.length=n*sz∧ds.length=m*sz∧(n+m) *bytes≤byteBound∧n+m≤byteBound∧0<sz then
   match t with
   | .own k e'=>if e'=e then some (.list (n+m) (cs++ds) (.own k e),st.count k (n+m))else none
   | .full e'=>if e'=e∧(0<m∨n=0)then some (.list (n+m) (cs++ds) (.own st.nx e),st.more [n+m])else none
   |_=>some (.list (n+m) (cs++ds) (.own st.nx e),st.more [n+m])
  else none
 |_,_=>none
theorem appP_ok{e sz bytes n m:Nat}{cs ds:List PV}{t u:Tok}{st:St}(h:Gr e st.nx st.cnt n t)(h1:cs.length=n*sz)(h2:ds.length=m*sz)(h3:(n+m) *bytes≤140737488355328)(h4:n+m≤140737488355328)(h5:0<sz):
  appP e sz bytes (.list n cs t) (.list m ds u) st=some (.list (n+m) (cs++ds) (appT e t st),appS t st (n+m)):=by
 have hb:byteBound=140737488355328:=rfl
 cases t with
 |no=>exact h.elim
 |sub k=>exact h.elim
 |el k e n=>exact h.elim
 |nil=>
  have h:n=0:=h
  subst h
  simp[appP,can,h1,h2,hb,h5,appT,appS]
  exact⟨by simpa using h3,by simpa using h4⟩
 |full e'=>
  obtain⟨h,hn⟩:e'=e∧n=0:=h
  subst h
  subst hn
  simp[appP,can,h1,h2,hb,h5,appT,appS]
  exact⟨by simpa using h3,by simpa using h4⟩
 |own k e'=>
  obtain⟨ha,hb',rfl⟩:k<st.nx∧st.cnt k=n∧e'=e:=h
  simp[appP,can,h1,h2,hb,h3,h4,h5,ha,hb',appT,appS]
theorem Gr_app{e n m:Nat}{t:Tok}{st:St}(h:Gr e st.nx st.cnt n t):Gr e (appS t st (n+m)).nx (appS t st (n+m)).cnt (n+m) (appT e t st):=by
 cases t with
 |no=>exact h.elim
 |sub k=>exact h.elim
 |el k e n=>exact h.elim
 |nil=>exact⟨by simp[appS,St.more],by simp[appS,St.more],rfl⟩
 |full e'=>exact⟨by simp[appS,St.more],by simp[appS,St.more],rfl⟩
 |own k e'=>
  obtain⟨ha,hb',rfl⟩:k<st.nx∧st.cnt k=n∧e'=e:=h
  exact⟨by simpa [appS,St.count]using ha,by simp[appS,St.count],rfl⟩
theorem Gr_full{e nx:Nat}{cnt:Nat→Nat}:Gr e nx cnt 0 (.full e):=⟨rfl,rfl⟩
theorem appS_objs{t:Tok}{st:St}{n:Nat}:(appS t st n).objs=st.objs:=by cases t<;>rfl
theorem appS_maps{t:Tok}{st:St}{n:Nat}:(appS t st n).maps=st.maps:=by cases t<;>rfl
def apartT:Tok→Tok→Prop
 | .own k _,.own j _=>k≠j
 |_,_=>True
theorem Gr_other{e e2 n n2 m:Nat}{t u:Tok}{st:St}(h:Gr e st.nx st.cnt n t)(k:Gr e2 st.nx st.cnt n2 u)(ha:apartT t u):Gr e2 (appS t st m).nx (appS t st m).cnt n2 u∧apartT (appT e t st) u:=by
 have go:∀ (t:Tok),(match t with| .own _ _=>False|_=>True)→appS t st m=st.more [m]→appT e t st= .own st.nx e→Gr e2 (appS t st m).nx (appS t st m).cnt n2 u∧apartT (appT e t st) u:=by
  intro t _ h1 h2
  rw[h1,h2]
  cases u with
  |own j e'=>
   obtain⟨ka,kb,rfl⟩:j<st.nx∧st.cnt j=n2∧e'=e2:=k
   refine⟨⟨by simp[St.more];omega,by simp[St.more,ka,kb],rfl⟩,?_⟩
   show st.nx≠j
   omega
  |no=>exact k.elim
  |sub k'=>exact k.elim
  |el k' e' n'=>exact k.elim
  |nil=>exact⟨k,trivial⟩
  |full e'=>exact⟨k,trivial⟩
 cases t with
 |no=>exact h.elim
 |sub k=>exact h.elim
 |el k e n=>exact h.elim
 |nil=>exact go .nil trivial rfl rfl
 |full e'=>exact go (.full e') trivial rfl rfl
 |own i e'=>
  cases u with
  |own j e''=>
   obtain⟨ka,kb,rfl⟩:j<st.nx∧st.cnt j=n2∧e''=e2:=k
   have ha:i≠j:=ha
   refine⟨⟨by simpa [appS,St.count]using ka,?_,rfl⟩,ha⟩
   simp only[appS,St.count]
   rw[if_neg (fun h=>ha h.symm)]
   exact kb
  |no=>exact k.elim
  |sub k'=>exact k.elim
  |el k' e' n'=>exact k.elim
  |nil=>exact⟨k,trivial⟩
  |full e''=>exact⟨k,trivial⟩
def fillV(zs:List PV):List (Nat×Nat×PV)→Option (List PV)
 | []=>some zs
 |(off,sz,p)::rest=>match cellsOf p with
  |some cs=>if cs.length=sz∧off+sz≤zs.length then fillV (putCells zs off cs) rest else none
  |none=>none
theorem fillV_eq(fr:Fr):∀ (ps:List (Nat×Nat×CX)) (zs:List PV),fillP zs fr ps=fillV zs (ps.map fun q=>(q.1,q.2.1,q.2.2.ev fr))
 | [],_=>rfl
 |(off,sz,x)::rest,zs=>by
  simp only[fillP,List.map_cons,fillV]
  cases cellsOf (x.ev fr)with
  |none=>rfl
  |some cs=>simp only[fillV_eq fr rest]
def aggO(o:Option (List PV))(st:St):Option (PV×St):=match o with
 |some cs=>some (.agg cs,st)
 |none=>none
def bslO(e sz n:Nat)(zs:List PV)(o:Option (List PV))(st:St):Option (PV×St):=match o with
 |some cs=>if zs.length=sz∧0<sz then some (.list n cs (.full e),st)else none
 |none=>none
def stoP(sz s off:Nat)(vs cs:Option (List PV))(st:St):Option (PV×St):=match vs,cs with
 |some vs,some cs=>if vs.length=sz∧off+sz≤cs.length then some (.hole,setO st s (putCells cs off vs))else none
 |_,_=>none
theorem storeP_eq{sz s off:Nat}{x:PV}{st:St}:storeP sz (.ptr s off) x st=stoP sz s off (cellsOf x) (st.objs s) st:=by
 simp only[storeP,stoP]
 cases cellsOf x with
 |none=>rfl
 |some vs=>cases h:st.objs s<;>simp only[h]
theorem loadP_eq{sz s off:Nat}{ag:Bool}{st:St}:loadP sz ag (.ptr s off) st=(lodP (st.objs s) off sz ag).map fun p=>(p,st):=by
 simp only[loadP,lodP]
 cases h:st.objs s<;>simp only[]<;>rfl
def b2sP(x:PV)(st:St):Option (PV×St):=match x with
 | .list n cs _=>match bytesP cs with
  |some bs=>if bs.length=n then some (.str ⟨bs.toArray⟩,st)else none
  |none=>none
 |_=>none
def bys(l:List UInt8):List PV:=l.map fun c=>U (c.toNat:Int)
theorem bytesP_bys(l:List UInt8):bytesP (bys l)=some l:=by
 unfold bys
 induction l with
 |nil=>rfl
 |cons c l ih=>simp[bytesP,ih]
theorem b2sP_bys{l:List UInt8}{n:Nat}{t:Tok}{st:St}(h:n=l.length):b2sP (.list n (bys l) t) st=some (S l,st):=by
 simp[b2sP,bytesP_bys,h]
theorem bys_length(l:List UInt8):(bys l).length=l.length:=by simp[bys]
theorem bys_snoc(l:List UInt8)(c:UInt8):bys l++[U (c.toNat:Int)]=bys (l++[c]):=by simp[bys]
def slcP(sz:Nat)(x:PV)(lo hi:Option PV)(st:St):Option (PV×St):=match x with
 | .list n cs t=>match (match (match hi with|some x=>boundP x n|none=>some n)with
   |none=>none
   |some h=>match (match lo with|some x=>boundP x h|none=>some 0)with
    |none=>none
    |some l=>some (l,h))with
  |some (l,h)=>if cs.length=n*sz then some (.list (h-l) ((cs.drop (l*sz)).take ((h-l) *sz)) (t.cut lo.isNone n h),st)else none
  |none=>none
 |_=>none
theorem partP_zero{c:PV}{cs:List PV}:partP (c::cs) 0 1 false=some c:=by
 simp[partP]
theorem partP_succ{c:PV}{cs:List PV}{n sz:Nat}{ag:Bool}:partP (c::cs) (n+1) sz ag=partP cs n sz ag:=by
 unfold partP
 simp only[List.length_cons,List.drop_succ_cons,List.getElem?_cons_succ]
 have:n+1+sz≤cs.length+1↔n+sz≤cs.length:=by omega
 simp only[this]
theorem partP_take{cs:List PV}{sz:Nat}:partP cs 0 sz true=if sz≤cs.length then some (.agg (cs.take sz))else none:=by
 simp[partP]
theorem putCells_cons{cs vs:List PV}{v:PV}{off:Nat}:putCells cs off (v::vs)=putCells (cs.set off v) (off+1) vs:=rfl
theorem putCells_cat:∀ (vs as cs:List PV),vs.length=cs.length→putCells (as++cs) as.length vs=as++vs
 | [],as,[],_=>rfl
 |v::vs,as,c::cs,h=>by
  rw[putCells_cons]
  have:(as++c::cs).set as.length v=(as++[v])++cs:=by simp
  rw[this]
  have h2:=putCells_cat vs (as++[v]) cs (by simpa using h)
  rw[List.length_append]at h2
  simp only[List.length_cons,List.length_nil,Nat.zero_add]at h2
  rw[h2]
  simp
theorem putCells_all{vs cs:List PV}(h:vs.length=cs.length):putCells cs 0 vs=vs:=by
 have:=putCells_cat vs [] cs h
 simpa using this
theorem pmx:
  (∀ {cf:CallF} {fr:Fr} {st:St} {d:Option Nat} {zs:List PV} {ps:List (Nat×Nat×CX)},runOp cf fr st d (.build zs ps)=aggO (fillV zs (ps.map fun q=>(q.1,q.2.1,q.2.2.ev fr))) st)∧
  (∀ {cf:CallF} {fr:Fr} {st:St} {d:Option Nat} {e sz n:Nat} {zs:List PV} {ps:List (Nat×Nat×CX)},runOp cf fr st d (.bsl e sz zs n ps)=bslO e sz n zs (fillV (List.replicate n zs).flatten (ps.map fun q=>(q.1,q.2.1,q.2.2.ev fr))) st)∧
  (∀ {cf:CallF} {fr:Fr} {st:St} {d:Option Nat} {e sz b:Nat} {x y:CX},runOp cf fr st d (.app e sz b x y)=appP e sz b (x.ev fr) (y.ev fr) st)∧
  (∀ {cf:CallF} {fr:Fr} {st:St} {d:Option Nat} {x:CX},runOp cf fr st d (.b2s x)=b2sP (x.ev fr) st)∧
  (∀ {cf:CallF} {fr:Fr} {st:St} {d:Option Nat} {sz:Nat} {x:CX},runOp cf fr st d (.slc sz x none none)=slcP sz (x.ev fr) none none st)∧
  (∀ {cf:CallF} {fr:Fr} {st:St} {d:Option Nat} {sz:Nat} {x a:CX},runOp cf fr st d (.slc sz x (some a) none)=slcP sz (x.ev fr) (some (a.ev fr)) none st)∧
  (∀ {cf:CallF} {fr:Fr} {st:St} {d:Option Nat} {sz:Nat} {x b:CX},runOp cf fr st d (.slc sz x none (some b))=slcP sz (x.ev fr) none (some (b.ev fr)) st)∧
  (∀ {cf:CallF} {fr:Fr} {st:St} {d:Option Nat} {sz:Nat} {x a b:CX},runOp cf fr st d (.slc sz x (some a) (some b))=slcP sz (x.ev fr) (some (a.ev fr)) (some (b.ev fr)) st):=by
 refine⟨?_,?_,?_,?_,?_,?_,?_,?_⟩
 ·intros;simp only[runOp,fillV_eq];rfl
 ·intros;simp only[runOp,fillV_eq];rfl
 all_goals (intros;rfl)
theorem pmy:
  (∀ {sz s off:Nat} {x:PV} {st:St},storeP sz (.ptr s off) x st=stoP sz s off (cellsOf x) (st.objs s) st)∧
  (∀ {sz s off:Nat} {ag:Bool} {st:St},loadP sz ag (.ptr s off) st=(lodP (st.objs s) off sz ag).map fun p=>(p,st))∧
  (∀ {sz s off:Nat} {vs cs:List PV} {st:St},stoP sz s off (some vs) (some cs) st=if vs.length=sz∧off+sz≤cs.length then some (.hole,setO st s (putCells cs off vs))else none)∧
  (∀ {cs:List PV} {off sz:Nat} {ag:Bool},lodP (some cs) off sz ag=partP cs off sz ag)∧
  (∀ {c:PV} {cs:List PV},partP (c::cs) 0 1 false=some c)∧(∀ {c:PV} {cs:List PV} {n sz:Nat} {ag:Bool},partP (c::cs) (n+1) sz ag=partP cs n sz ag)∧
  (∀ {cs:List PV} {sz:Nat},partP cs 0 sz true=if sz≤cs.length then some (.agg (cs.take sz))else none)∧
  (∀ {cs:List PV},cellsOf (.agg cs)=some cs)∧(∀ {k:IntKind} {n:Int},cellsOf (.int k n)=some [.int k n])∧(∀ {b:Bool},cellsOf (.bool b)=some [.bool b])∧(∀ {s:ByteArray},cellsOf (.str s)=some [.str s])∧(∀ {n:Nat} {cs:List PV} {t:Tok},cellsOf (.list n cs t)=some [.list n cs t])∧
  (∀ {cs st},aggO (some cs) st=some (.agg cs,st))∧(∀ {e sz n:Nat} {zs cs:List PV} {st:St},bslO e sz n zs (some cs) st=if zs.length=sz∧0<sz then some (.list n cs (.full e),st)else none)∧
  (∀ {zs:List PV},fillV zs []=some zs)∧(∀ {zs:List PV} {off sz:Nat} {p:PV} {rest:List (Nat×Nat×PV)},fillV zs ((off,sz,p)::rest)=match cellsOf p with|some cs=>if cs.length=sz∧off+sz≤zs.length then fillV (putCells zs off cs) rest else none|none=>none)∧
  (∀ {cs:List PV} {off:Nat},putCells cs off []=cs)∧(∀ {cs vs:List PV} {v:PV} {off:Nat},putCells cs off (v::vs)=putCells (cs.set off v) (off+1) vs)∧
  (∀ {c v:PV} {cs:List PV},(c::cs).set 0 v=v::cs)∧(∀ {c v:PV} {cs:List PV} {n:Nat},(c::cs).set (n+1) v=c::cs.set n v)∧
  (∀ {zs:List PV},(List.replicate 1 zs).flatten=zs)∧(∀ {zs:List PV},(List.replicate 2 zs).flatten=zs++zs)∧
  (∀ {cs:List PV},cs.take 0=[])∧(∀ {c:PV} {cs:List PV} {n:Nat},(c::cs).take (n+1)=c::cs.take n)∧(∀ {n:Nat},([]:List PV).take n=[])∧
  (([]:List PV).length=0)∧(∀ {c:PV} {cs:List PV},(c::cs).length=cs.length+1)∧
  (∀ {vs:List PV},([]++vs)=vs)∧(∀ {v:PV} {vs ws:List PV},((v::vs)++ws)=v::(vs++ws))∧
  (∀ {t:Tok} {st:St} {n:Nat},(appS t st n).objs=st.objs)∧(∀ {t:Tok} {st:St} {n:Nat},(appS t st n).maps=st.maps)∧
  (∀ {st:St} {v:Nat},(setF st v).objs=st.objs)∧(∀ {st:St} {v:Nat},(setF st v).maps=st.maps)∧(∀ {st:St} {v:Nat},(setF st v).nx=st.nx)∧(∀ {st:St} {v:Nat},(setF st v).cnt=st.cnt):=by
 refine⟨storeP_eq,loadP_eq,rfl,rfl,partP_zero,partP_succ,partP_take,rfl,rfl,rfl,rfl,rfl,rfl,rfl,rfl,rfl,rfl,rfl,rfl,rfl,?_,?_,?_,?_,?_,?_,?_,?_,?_,appS_objs,appS_maps,rfl,rfl,rfl,rfl⟩<;>intros<;>first|rfl|simp[List.replicate]
theorem ressP_cons{fr:Fr}{st:St}{r:CRes}{rs:List CRes}:ressP fr st (r::rs)=consO (resP fr st r) (ressP fr st rs):=by
 simp only[ressP]
 cases resP fr st r<;>cases ressP fr st rs<;>rfl
theorem strip_list{n:Nat}{cs:List PV}{t:Tok}:strip (.list n cs t)= .list n (strips cs) .no:=by
 simp only[strip,strips,ren]
 cases t<;>rfl
theorem pmz:
  (∀ {rs:List CRes} {Q:PV→List PV→Prop} {fr:Fr} {st:St},Ends rs Q .ret (fr,st)↔outO Q (ressP fr st rs) (st.objs 0))∧
  (∀ {rs:List CRes} {Q:PV→List PV→Prop} {fr:Fr} {st:St},Ends rs Q .go (fr,st)↔outO Q (ressP fr st rs) (st.objs 0))∧
  (∀ {rs:List CRes} {Q:PV→Prop} {fr:Fr} {st:St},EndsV rs Q .ret (fr,st)↔outO (fun p _=>Q p) (ressP fr st rs) (some []))∧
  (∀ {rs:List CRes} {Q:PV→Prop} {fr:Fr} {st:St},EndsV rs Q .go (fr,st)↔outO (fun p _=>Q p) (ressP fr st rs) (some []))∧
  (∀ {Q:PV→List PV→Prop} {ps c:List PV},outO Q (some ps) (some c)↔(goesOut ps=true∧nps c=true∧Q (strip (oneOf ps)) (strips c)))∧
  (∀ {fr:Fr} {st:St},ressP fr st []=some [])∧(∀ {fr:Fr} {st:St} {r:CRes} {rs:List CRes},ressP fr st (r::rs)=consO (resP fr st r) (ressP fr st rs))∧
  (∀ {p:PV} {ps:List PV},consO (some p) (some ps)=some (p::ps))∧
  (∀ {fr:Fr} {st:St} {t:Nat},resP fr st (.tmp t)=some (fr t))∧(∀ {fr:Fr} {st:St} {a sz:Nat} {ag:Bool},resP fr st (.cell a sz ag)=celP (fr a) sz ag st)∧
  (∀ {s off sz:Nat} {ag:Bool} {st:St},celP (.ptr s off) sz ag st=lodP (st.objs s) off sz ag)∧
  (goesOut []=true)∧(∀ {p:PV} {ps:List PV},goesOut (p::ps)=(np p && notRow p && goesOut ps))∧
  (∀ {p:PV},oneOf [p]=p)∧(∀ {p q:PV} {ps:List PV},oneOf (p::q::ps)= .tup (p::q::ps))∧
  (∀ {k:IntKind} {n:Int},notRow (.int k n)=true)∧(∀ {b:Bool},notRow (.bool b)=true)∧(∀ {s:ByteArray},notRow (.str s)=true)∧(∀ {cs:List PV},notRow (.agg cs)=true)∧(∀ {n:Nat} {cs:List PV} {t:Tok},notRow (.list n cs t)=true)∧
  (∀ {k:IntKind} {n:Int},np (.int k n)=true)∧(∀ {b:Bool},np (.bool b)=true)∧(∀ {s:ByteArray},np (.str s)=true)∧(∀ {cs:List PV},np (.agg cs)=nps cs)∧(∀ {n:Nat} {cs:List PV} {t:Tok},np (.list n cs t)=nps cs)∧(np .nili=true)∧(np .err=true)∧
  (nps []=true)∧(∀ {p:PV} {ps:List PV},nps (p::ps)=(np p && nps ps))∧
  (∀ {k:IntKind} {n:Int},strip (.int k n)= .int k n)∧(∀ {b:Bool},strip (.bool b)= .bool b)∧(∀ {s:ByteArray},strip (.str s)= .str s)∧(∀ {cs:List PV},strip (.agg cs)= .agg (strips cs))∧(∀ {cs:List PV},strip (.tup cs)= .tup (strips cs))∧(∀ {n:Nat} {cs:List PV} {t:Tok},strip (.list n cs t)= .list n (strips cs) .no)∧
  (strips []=[])∧(∀ {p:PV} {ps:List PV},strips (p::ps)=strip p::strips ps)∧
  (∀ {ns:List Nat} {c:List PV} {cs:List (List PV)},(stB ns (c::cs)).objs 0=some c):=by
 refine⟨?_,?_,?_,?_,?_,?_,ressP_cons,?_,?_,?_,?_,?_,?_,?_,?_,?_,?_,?_,?_,?_,?_,?_,?_,?_,?_,?_,?_,?_,?_,?_,?_,?_,?_,?_,strip_list,?_,?_,?_⟩<;>intros<;>first|rfl|(simp only[Ends,EndsV,endOk,true_and])
def WK(cf:CallF)(chk:List (Nat×Nat))(acc:List (List Nat))(os:List COper)(x:Fr×St)(K:Fr×St→Prop):Prop:=
 ∃ ks y,keysRun cf os x=some (ks,y)∧chk.all (apartK (acc++ks))=true∧K y
def okK(b:Bool)(A:Prop):Prop:=b=true∧A
section
variable {cf:CallF} {N:Nat} {fr:Fr} {st:St} {chk:List (Nat×Nat)} {acc:List (List Nat)}
theorem Wp_regK{os:List COper}{q:Nat×Nat}{Q:Ex→Fr×St→Prop}:Wp cf N (.reg os (q::chk)) (fr,st) Q↔WK cf (q::chk) [] os (fr,st) (Q .go):=by
 unfold Wp WK
 simp only[ev,regP,List.nil_append]
 cases h:keysRun cf os (fr,st)with
 |none=>simp
 |some z=>
  obtain⟨ks,y⟩:=z
  simp only
  constructor
  ·rintro⟨e,y',h,hq⟩
   split at h
   ·rename_i hc
    simp only[Option.map_some,Option.some.injEq,Prod.mk.injEq]at h
    obtain⟨rfl,rfl⟩:=h
    exact⟨ks,y,rfl,hc,hq⟩
   ·simp at h
  ·rintro⟨ks',y',h,hc,hq⟩
   simp only[Option.some.injEq,Prod.mk.injEq]at h
   obtain⟨rfl,rfl⟩:=h
   rw[if_pos hc]
   exact⟨.go,y,rfl,hq⟩
theorem WK_nil{K:Fr×St→Prop}:WK cf chk acc [] (fr,st) K↔okK (chk.all (apartK acc)) (Later K (fr,st)):=by
 unfold WK okK Later
 simp only[keysRun]
 constructor
 ·rintro⟨ks,y,h,hc,hk⟩
  cases h
  rw[List.append_nil]at hc
  exact⟨hc,hk⟩
 ·rintro⟨hc,hk⟩
  exact⟨[],_,rfl,by rw[List.append_nil];exact hc,hk⟩
theorem WK_cons'{o:COper}{os:List COper}{x:Fr×St}{K:Fr×St→Prop}:
  WK cf chk acc (o::os) x K↔∃ y,runOper cf o x=some y∧WK cf chk (acc++[keysAt x.1 o.op]) os y K:=by
 unfold WK
 simp only[keysRun]
 constructor
 ·rintro⟨ks,y,h,hc,hk⟩
  split at h
  ·rename_i z hz
   refine⟨z,hz,?_⟩
   split at h
   ·rename_i hz'
    cases h
    exact⟨_,_,hz',by rw[List.append_assoc];exact hc,hk⟩
   ·cases h
  ·cases h
 ·rintro⟨y,hy,ks,z,hz,hc,hk⟩
  rw[hy]
  simp only[hz]
  exact⟨_,_,rfl,by rw[List.append_assoc]at hc;exact hc,hk⟩
theorem WK_cons{d:Option Nat}{op:COp}{os:List COper}{K:Fr×St→Prop}:
  WK cf chk acc (⟨none,d,op⟩::os) (fr,st) K↔RunsTo (runOp cf fr st d op) (fun v st'=>(put (killF cf op d st fr) d v,st')) (fun y=>WK cf chk (acc++[keysAt fr op]) os y K):=by
 rw[WK_cons']
 have h:=WO_cons (cf:=cf) (fr:=fr) (st:=st) (d:=d) (op:=op) (os:=[]) (K:=fun y=>WK cf chk (acc++[keysAt fr op]) os y K)
 simp only[WO,runOps,RunsTo]at h ⊢
 rw[←(show(∃ y,(match runOper cf ⟨none,d,op⟩ (fr,st)with|some y=>some y|none=>none)=some y∧WK cf chk (acc++[keysAt fr op]) os y K)↔∃ y,runOper cf ⟨none,d,op⟩ (fr,st)=some y∧WK cf chk (acc++[keysAt fr op]) os y K by
  constructor<;>rintro⟨y,h,k⟩<;>refine⟨y,?_,k⟩<;>revert h<;>cases runOper cf ⟨none,d,op⟩ (fr,st)<;>simp)]
 constructor
 ·intro hh
  obtain⟨v,st',h1,y,h2,h3⟩:=h.1 hh
  cases h2
  exact⟨v,st',h1,h3⟩
 ·rintro⟨v,st',h1,h3⟩
  exact h.2 ⟨v,st',h1,_,rfl,h3⟩
theorem WK_guard{s:Nat}{b:Bool}{d:Option Nat}{op:COp}{os:List COper}{K:Fr×St→Prop}:
  WK cf chk acc (⟨some (s,b),d,op⟩::os) (fr,st) K↔byG (fr s) b (Later (fun y=>WK cf chk acc (⟨none,d,op⟩::os) y K) (fr,st)) (Later (fun y=>WK cf chk (acc++[keysAt fr op]) os y K) (put fr d .hole,st)):=by
 simp only[Later]
 rw[WK_cons']
 have hW:=WK_cons' (cf:=cf) (chk:=chk) (acc:=acc) (o:=⟨none,d,op⟩) (os:=os) (x:=(fr,st)) (K:=K)
 rw[hW]
 clear hW
 unfold byG
 simp only[runOper,wants]
 generalize fr s=p
 cases p with
 |bool b'=>
  cases b<;>cases b'<;>simp[Cnd]
 |hole=>simp
 |_=>simp
end
theorem pmw:
  (∀ {cf:CallF} {N:Nat} {fr:Fr} {st:St} {os:List COper} {q:Nat×Nat} {chk:List (Nat×Nat)} {Q:Ex→Fr×St→Prop},Wp cf N (.reg os (q::chk)) (fr,st) Q↔WK cf (q::chk) [] os (fr,st) (Q .go))∧
  (∀ {cf:CallF} {chk:List (Nat×Nat)} {acc:List (List Nat)} {fr:Fr} {st:St} {K:Fr×St→Prop},WK cf chk acc [] (fr,st) K↔okK (chk.all (apartK acc)) (Later K (fr,st)))∧
  (∀ {cf:CallF} {chk:List (Nat×Nat)} {acc:List (List Nat)} {fr:Fr} {st:St} {d:Option Nat} {op:COp} {os:List COper} {K:Fr×St→Prop},
   WK cf chk acc (⟨none,d,op⟩::os) (fr,st) K↔RunsTo (runOp cf fr st d op) (fun v st'=>(put (killF cf op d st fr) d v,st')) (fun y=>WK cf chk (acc++[keysAt fr op]) os y K))∧
  (∀ {cf:CallF} {chk:List (Nat×Nat)} {acc:List (List Nat)} {fr:Fr} {st:St} {s:Nat} {b:Bool} {d:Option Nat} {op:COp} {os:List COper} {K:Fr×St→Prop},
   WK cf chk acc (⟨some (s,b),d,op⟩::os) (fr,st) K↔byG (fr s) b (Later (fun y=>WK cf chk acc (⟨none,d,op⟩::os) y K) (fr,st)) (Later (fun y=>WK cf chk (acc++[keysAt fr op]) os y K) (put fr d .hole,st)))∧
  (∀ {f:Fr×St→Prop} {x:Fr×St},okK true (Later f x)↔f x):=
 ⟨Wp_regK,WK_nil,WK_cons,WK_guard,by simp[okK,Later]⟩
theorem pmwk:
  (∀ {fr:Fr} {x:CX},keysAt fr (.mv x)=[])∧(∀ {fr:Fr} {a b c:CX},keysAt fr (.pick a b c)=[])∧(∀ {fr:Fr} {zs:List PV},keysAt fr (.alloc zs)=[])∧(∀ {fr:Fr} {n:Nat} {x:CX},keysAt fr (.box n x)=[])∧
  (∀ {fr:Fr} {zs:List PV} {ps:List (Nat×Nat×CX)},keysAt fr (.build zs ps)=[])∧(∀ {fr:Fr} {e sz n:Nat} {zs:List PV} {ps:List (Nat×Nat×CX)},keysAt fr (.bsl e sz zs n ps)=[])∧
  (∀ {fr:Fr} {sz:Nat} {ag:Bool} {x:CX},keysAt fr (.load sz ag x)=keyOf (x.ev fr))∧(∀ {fr:Fr} {sz:Nat} {x y:CX},keysAt fr (.store sz x y)=keyOf (x.ev fr))∧
  (∀ {fr:Fr} {x:CX},keysAt fr (.nck x)=[])∧(∀ {fr:Fr} {op:BinOp} {x y:CX},keysAt fr (.bin op x y)=[])∧(∀ {fr:Fr} {b:Bool} {x:CX},keysAt fr (.isnil b x)=[])∧(∀ {fr:Fr} {b:Bool} {x y:CX},keysAt fr (.beq b x y)=[])∧
  (∀ {fr:Fr} {op:UnOp} {x:CX},keysAt fr (.un op x)=[])∧(∀ {fr:Fr} {k:IntKind} {x:CX},keysAt fr (.toInt k x)=[])∧(∀ {fr:Fr} {x:CX},keysAt fr (.s2s x)=[])∧(∀ {fr:Fr} {x:CX} {i:Nat},keysAt fr (.ext x i)=[])∧
  (∀ {fr:Fr} {o:Nat} {x:CX},keysAt fr (.fad o x)=[])∧(∀ {fr:Fr} {o sz:Nat} {ag:Bool} {x:CX},keysAt fr (.fld o sz ag x)=[])∧(∀ {fr:Fr} {sz:Nat} {x y:CX},keysAt fr (.iad sz x y)=[])∧(∀ {fr:Fr} {x y:CX},keysAt fr (.sidx x y)=[])∧
  (∀ {fr:Fr} {x:CX} {l h:Option CX},keysAt fr (.ssl x l h)=[])∧(∀ {fr:Fr} {sz:Nat} {x:CX} {l h:Option CX},keysAt fr (.slc sz x l h)=[])∧(∀ {fr:Fr} {x:CX},keysAt fr (.slen x)=[])∧(∀ {fr:Fr} {x:CX},keysAt fr (.len x)=[])∧
  (∀ {fr:Fr} {e sz b:Nat} {x y:CX},keysAt fr (.app e sz b x y)=[])∧(∀ {fr:Fr} {x:CX},keysAt fr (.b2s x)=[])∧(∀ {fr:Fr} {e sz b:Nat} {zs:List PV} {n c:CX},keysAt fr (.mks e sz b zs n c)=[])∧(∀ {fr:Fr} {e sz b:Nat} {n c:CX},keysAt fr (.mk0 e sz b n c)=[])∧
  (∀ {fr:Fr} {f:Nat} {as:List CX} {mv:List Nat},keysAt fr (.call f as mv)=(keysOf (as.map (·.ev fr))).getD [])∧
  (∀ {s o:Nat},keyOf (.ptr s o)=[s])∧(∀ {cs:List PV} {o:Nat} {t:Tok},keyOf (.iptr cs o t)=[])∧(keyOf .hole=[])∧(keyOf .any=[])∧
  (∀ {l:List Nat},(some l).getD []=l)∧(∀ {k:IntKind} {n:Int} {ps:List PV},keysOf (.int k n::ps)=keysOf ps)∧(∀ {s:ByteArray} {ps:List PV},keysOf (.str s::ps)=keysOf ps)∧(∀ {b:Bool} {ps:List PV},keysOf (.bool b::ps)=keysOf ps)∧(∀ {ps:List PV},keysOf (.hole::ps)=keysOf ps)∧(keysOf []=some [])∧
  (∀ {as:List (List Nat)},[]++as=as)∧(∀ {a:List Nat} {as bs:List (List Nat)},(a::as)++bs=a::(as++bs)):=by
 refine⟨?_,?_,?_,?_,?_,?_,?_,?_,?_,?_,?_,?_,?_,?_,?_,?_,?_,?_,?_,?_,?_,?_,?_,?_,?_,?_,?_,?_,?_,?_,?_,?_,?_,?_,?_,?_,?_,?_,?_,?_,?_⟩<;>intros<;>rfl
theorem pmwa:(∀ {ks:List (List Nat)},List.all [] (apartK ks)=true)∧(∀ {ks:List (List Nat)} {q:Nat×Nat} {qs:List (Nat×Nat)},List.all (q::qs) (apartK ks)=(apartK ks q && List.all qs (apartK ks)))∧
  (∀ {ks:List (List Nat)} {i j:Nat},apartK ks (i,j)=((ks[i]?).getD []).all fun k=>!((ks[j]?).getD []).contains k)∧(∀ {f:Nat→Bool},List.all [] f=true)∧(∀ {f:Nat→Bool} {k:Nat} {ks:List Nat},List.all (k::ks) f=(f k && List.all ks f))∧
  (∀ {k:Nat},([]:List Nat).contains k=false)∧(∀ {k j:Nat} {ks:List Nat},(j::ks).contains k=(decide (k=j)||ks.contains k)):=by
 refine⟨rfl,rfl,rfl,rfl,rfl,rfl,?_⟩
 intros k j ks
 rw[List.contains_cons]
 congr 1
mutual
theorem toks_ren(f:Nat→Option Nat)(h:Nat→Nat):∀ p:PV,(∀ q∈toks p,f q.1=some (h q.1))→toks (ren f false p)=(toks p).map fun q=>(h q.1,q.2)
 | .list n cs t,hf=>by
  have ih:=tokss_ren f h cs fun q hq=>hf q (by simp only[toks,List.mem_append];exact .inr hq)
  simp only[ren,toks,ih,List.map_append]
  congr 1
  cases t with
  |own k e=>
   have:=hf (k,n) (by simp[toks])
   simp only at this
   simp[Tok.ren,this]
  |sub k=>
   simp only[Tok.ren]
   cases f k<;>rfl
  |el k e n=>
   simp only[Tok.ren]
   cases f k<;>rfl
  |_=>rfl
 | .iptr cs o t,hf=>by
  have ih:=tokss_ren f h cs hf
  simp only[ren,toks,ih]
 | .agg cs,hf=>by
  have ih:=tokss_ren f h cs hf
  simp only[ren,toks,ih]
 | .tup cs,hf=>by
  have ih:=tokss_ren f h cs hf
  simp only[ren,toks,ih]
 | .fn g cs,hf=>by
  have ih:=tokss_ren f h cs hf
  simp only[ren,toks,ih]
 | .any,_| .hole,_| .int _ _,_| .bool _,_| .str _,_| .nilp,_| .nili,_| .err,_| .ptr _ _,_| .osl _ _ _ _,_| .mp _,_=>rfl
theorem tokss_ren(f:Nat→Option Nat)(h:Nat→Nat):∀ ps:List PV,(∀ q∈tokss ps,f q.1=some (h q.1))→tokss (rens f false ps)=(tokss ps).map fun q=>(h q.1,q.2)
 | [],_=>rfl
 |p::ps,hf=>by
  simp only[rens,tokss,List.map_append]
  rw[toks_ren f h p fun q hq=>hf q (by simp only[tokss,List.mem_append];exact .inl hq),tokss_ren f h ps fun q hq=>hf q (by simp only[tokss,List.mem_append];exact .inr hq)]
end
mutual
theorem strip_ren(f:Nat→Option Nat):∀ p:PV,strip (ren f false p)=strip p
 | .list n cs t=>by
  have ih:=strips_rens f cs
  simp only[strip,strips,ren]at ih ⊢
  rw[ih]
  congr 1
  cases t with
  |own k e=>simp only[Tok.ren];cases f k<;>rfl
  |sub k=>simp only[Tok.ren];cases f k<;>rfl
  |el k e n=>simp only[Tok.ren];cases f k<;>rfl
  |_=>rfl
 | .iptr cs o t=>by
  have ih:=strips_rens f cs
  simp only[strip,strips,ren]at ih ⊢
  rw[ih]
  congr 1
  cases t with
  |own k e=>simp only[Tok.ren];cases f k<;>rfl
  |sub k=>simp only[Tok.ren];cases f k<;>rfl
  |el k e n=>simp only[Tok.ren];cases f k<;>rfl
  |_=>rfl
 | .agg cs=>by
  have ih:=strips_rens f cs
  simp only[strip,strips,ren]at ih ⊢
  rw[ih]
 | .tup cs=>by
  have ih:=strips_rens f cs
  simp only[strip,strips,ren]at ih ⊢
  rw[ih]
 | .fn g cs=>by
  have ih:=strips_rens f cs
  simp only[strip,strips,ren]at ih ⊢
  rw[ih]
 | .any| .hole| .int _ _| .bool _| .str _| .nilp| .nili| .err| .ptr _ _| .osl _ _ _ _| .mp _=>rfl
theorem strips_rens(f:Nat→Option Nat):∀ ps:List PV,strips (rens f false ps)=strips ps
 | []=>rfl
 |p::ps=>by
  have h1:=strip_ren f p
  have h2:=strips_rens f ps
  simp only[strip,strips,rens]at h1 h2 ⊢
  rw[h1,h2]
end
def ck(k:Nat):List (Nat×Nat)→Nat
 | []=>0
 |q::l=>(if q.1=k then 1 else 0)+ck k l
theorem ck_append(k:Nat):∀ a b:List (Nat×Nat),ck k (a++b)=ck k a+ck k b
 | [],b=>by simp[ck]
 |q::a,b=>by rw[List.cons_append,ck,ck,ck_append k a b];omega
theorem ck_pos{k:Nat}:∀ {l:List (Nat×Nat)},0<ck k l↔∃ q∈l,q.1=k
 | []=>by simp[ck]
 |q::l=>by
  rw[ck]
  have ih:= @ck_pos k l
  by_cases h:q.1=k
  ·simp[h];omega
  ·rw[if_neg h,Nat.zero_add,ih];simp[h]
theorem ck_zero{k:Nat}{l:List (Nat×Nat)}(h:∀ q∈l,q.1≠k):ck k l=0:=by
 have:= @ck_pos k l
 by_cases h0:0<ck k l
 ·obtain⟨q,hq,he⟩:=this.1 h0
  exact absurd he (h q hq)
 ·omega
theorem nodupB_ck:∀ {l:List (Nat×Nat)},(∀ k,ck k l≤1)→nodupB (l.map (·.1))=true
 | [],_=>rfl
 |q::l,h=>by
  simp only[List.map_cons,nodupB,Bool.and_eq_true,Bool.not_eq_true']
  refine⟨?_,nodupB_ck fun k=>?_⟩
  ·have h1:=h q.1
   rw[ck,if_pos rfl]at h1
   cases hc:(l.map (·.1)).contains q.1 with
   |false=>rfl
   |true=>
    obtain⟨x,hx,he⟩:=List.mem_map.1 (List.contains_iff_mem.1 hc)
    have:=ck_pos.2 ⟨x,hx,he⟩
    omega
  ·have h1:=h k
   rw[ck]at h1
   omega
mutual
def solid:PV→Bool
 | .list _ cs t=>(match t with| .own _ _=>true| .sub _=>false| .el .. =>false|_=>cs.isEmpty) && solids cs
 | .agg cs=>solids cs
 | .tup cs=>solids cs
 | .fn _ cs=>solids cs
 | .iptr .. =>false
 |_=>true
def solids:List PV→Bool
 | []=>true
 |p::ps=>solid p && solids ps
end
mutual
theorem solid_closed:∀ p:PV,solid p=true→closed p=true
 | .list n cs t,h=>by
  simp only[solid,Bool.and_eq_true]at h
  simp only[closed,Bool.and_eq_true]
  refine⟨?_,solids_closed cs h.2⟩
  cases t<;>simp_all [Tok.of]
 | .agg cs,h=>by simp only[solid]at h;simp only[closed];exact solids_closed cs h
 | .tup cs,h=>by simp only[solid]at h;simp only[closed];exact solids_closed cs h
 | .fn _ cs,h=>by simp only[solid]at h;simp only[closed];exact solids_closed cs h
 | .iptr ..,h=>by simp[solid]at h
 | .any,_| .hole,_| .int _ _,_| .bool _,_| .str _,_| .nilp,_| .nili,_| .err,_| .ptr _ _,_| .osl _ _ _ _,_| .mp _,_=>rfl
theorem solids_closed:∀ ps:List PV,solids ps=true→closeds ps=true
 | [],_=>rfl
 |p::ps,h=>by
  simp only[solids,Bool.and_eq_true]at h
  simp only[closeds,solid_closed p h.1,solids_closed ps h.2,Bool.and_self]
end
mutual
theorem solid_tf(K:Nat→Bool):∀ p:PV,solid p=true→(∀ q∈toks p,K q.1=false)→tf K p=true
 | .list n cs t,h,hk=>by
  simp only[solid,Bool.and_eq_true]at h
  simp only[tf,Bool.and_eq_true]
  refine⟨?_,solids_tf K cs h.2 fun q hq=>hk q (by simp only[toks,List.mem_append];exact .inr hq)⟩
  cases t with
  |own k e=>have:=hk (k,n) (by simp[toks]);simp only[Tok.free,Tok.of];simp_all
  |sub k=>simp at h
  |el k e n=>simp at h
  |no=>rfl
  |nil=>rfl
  |full e=>rfl
 | .agg cs,h,hk=>by simp only[solid]at h;simp only[tf];exact solids_tf K cs h hk
 | .tup cs,h,hk=>by simp only[solid]at h;simp only[tf];exact solids_tf K cs h hk
 | .fn _ cs,h,hk=>by simp only[solid]at h;simp only[tf];exact solids_tf K cs h hk
 | .iptr ..,h,_=>by simp[solid]at h
 | .any,_,_| .hole,_,_| .int _ _,_,_| .bool _,_,_| .str _,_,_| .nilp,_,_| .nili,_,_| .err,_,_| .ptr _ _,_,_| .osl _ _ _ _,_,_| .mp _,_,_=>rfl
theorem solids_tf(K:Nat→Bool):∀ ps:List PV,solids ps=true→(∀ q∈tokss ps,K q.1=false)→tfs K ps=true
 | [],_,_=>rfl
 |p::ps,h,hk=>by
  simp only[solids,Bool.and_eq_true]at h
  simp only[tfs,solid_tf K p h.1 fun q hq=>hk q (by simp only[tokss,List.mem_append];exact .inl hq),solids_tf K ps h.2 fun q hq=>hk q (by simp only[tokss,List.mem_append];exact .inr hq),Bool.and_self]
end
mutual
theorem solid_ren(f:Nat→Option Nat):∀ p:PV,solid p=true→(∀ q∈toks p,(f q.1).isSome=true)→solid (ren f false p)=true
 | .list n cs t,h,hk=>by
  simp only[solid,Bool.and_eq_true]at h
  rw[ren_list]
  simp only[solid,Bool.and_eq_true]
  refine⟨?_,solids_rens f cs h.2 fun q hq=>hk q (by simp only[toks,List.mem_append];exact .inr hq)⟩
  have he:(rens f false cs).isEmpty=cs.isEmpty:=by cases cs<;>rfl
  cases t with
  |own k e=>
   have h1:=hk (k,n) (by simp[toks])
   obtain⟨k',hk'⟩:=Option.isSome_iff_exists.1 h1
   simp only[Tok.ren,show f k=some k' from hk']
  |sub k=>simp at h
  |el k e n=>simp at h
  |no=>simp only[Tok.ren,he];exact h.1
  |nil=>simp only[Tok.ren,he];exact h.1
  |full e=>simp only[Tok.ren,he];exact h.1
 | .agg cs,h,hk=>by simp only[solid]at h;simp only[ren,solid];exact solids_rens f cs h hk
 | .tup cs,h,hk=>by simp only[solid]at h;simp only[ren,solid];exact solids_rens f cs h hk
 | .fn _ cs,h,hk=>by simp only[solid]at h;simp only[ren,solid];exact solids_rens f cs h hk
 | .iptr ..,h,_=>by simp[solid]at h
 | .any,_,_| .hole,_,_| .int _ _,_,_| .bool _,_,_| .str _,_,_| .nilp,_,_| .nili,_,_| .err,_,_| .ptr _ _,_,_| .osl _ _ _ _,_,_| .mp _,_,_=>rfl
theorem solids_rens(f:Nat→Option Nat):∀ ps:List PV,solids ps=true→(∀ q∈tokss ps,(f q.1).isSome=true)→solids (rens f false ps)=true
 | [],_,_=>rfl
 |p::ps,h,hk=>by
  simp only[solids,Bool.and_eq_true]at h
  simp only[rens,solids,solid_ren f p h.1 fun q hq=>hk q (by simp only[tokss,List.mem_append];exact .inl hq),solids_rens f ps h.2 fun q hq=>hk q (by simp only[tokss,List.mem_append];exact .inr hq),Bool.and_self]
end
def enum(nx:Nat):List Nat→List (Nat×Nat)
 | []=>[]
 |n::ns=>(nx,n)::enum (nx+1) ns
theorem enum_append(nx:Nat):∀ a b:List Nat,enum nx (a++b)=enum nx a++enum (nx+a.length) b
 | [],b=>by simp[enum]
 |n::a,b=>by rw[List.cons_append,enum,enum,enum_append (nx+1) a b,List.cons_append,List.length_cons,Nat.add_assoc,Nat.add_comm 1]
theorem enum_length(nx:Nat):∀ a:List Nat,(enum nx a).length=a.length
 | []=>rfl
 |n::a=>by rw[enum,List.length_cons,enum_length (nx+1) a,List.length_cons]
theorem enum_mem{nx:Nat}:∀ {a:List Nat} {q:Nat×Nat},q∈enum nx a→nx≤q.1∧q.1<nx+a.length∧a.getD (q.1-nx) 0=q.2
 | [],q,h=>by simp[enum]at h
 |n::a,q,h=>by
  rw[enum,List.mem_cons]at h
  rcases h with rfl|h
  ·simp
  ·obtain⟨h1,h2,h3⟩:=enum_mem h
   refine⟨by omega,by simp;omega,?_⟩
   obtain⟨d,hd⟩:∃ d,q.1-nx=d+1:=⟨q.1-nx-1,by omega⟩
   rw[hd,List.getD_cons_succ,←h3]
   congr 1;omega
theorem enum_ck{nx:Nat}(k:Nat):∀ a:List Nat,ck k (enum nx a)≤1
 | []=>by simp[enum,ck]
 |n::a=>by
  rw[enum,ck]
  have h1:= @enum_ck (nx+1) k a
  by_cases h:nx=k
  ·have:ck k (enum (nx+1) a)=0:=ck_zero fun q hq=>by have:=enum_mem hq;omega
   simp only[h,if_true]at this ⊢
   omega
  ·simp only[h,if_false];omega
theorem idxIn_mem{x:Nat}:∀ {xs:List Nat},x∈xs→(idxIn xs x).isSome=true
 |y::ys,h=>by
  rw[idxIn]
  split
  ·rfl
  ·rename_i hn
   have hx:x∈ys:=by
    rcases List.mem_cons.1 h with rfl|h
    ·exact absurd rfl hn
    ·exact h
   have:= @idxIn_mem x ys hx
   simpa using this
theorem idxIn_enum:∀ {l:List (Nat×Nat)} (d:Nat),(∀ k,ck k l≤1)→l.map (fun q=>(d+(idxIn (l.map (·.1)) q.1).getD 0,q.2))=enum d (l.map (·.2))
 | [],_,_=>rfl
 |q::l,d,h=>by
  have hl:∀ k,ck k l≤1:=fun k=>by have:=h k;rw[ck]at this;omega
  have ih:=idxIn_enum (d+1) hl
  simp only[List.map_cons,enum,idxIn,if_true]
  congr 1
  rw[←ih]
  refine List.map_congr_left fun x hx=>?_
  have hne:q.1≠x.1:=by
   intro he
   have h1:=h q.1
   rw[ck,if_pos rfl]at h1
   have:=ck_pos.2 ⟨x,hx,he.symm⟩
   omega
  rw[if_neg hne]
  have hm:x.1∈l.map (·.1):=List.mem_map.2 ⟨x,hx,rfl⟩
  obtain⟨i,hi⟩:=Option.isSome_iff_exists.1 (idxIn_mem hm)
  simp only[hi,Option.map_some,Option.getD_some]
  congr 1;omega
def TokOK(st:St)(l:List (Nat×Nat)):Prop:=(∀ k,ck k l≤1)∧∀ q∈l,q.1<st.nx∧st.cnt q.1=q.2∧st.fl≤q.1
theorem TokOK.ok{st:St}{l:List (Nat×Nat)}(h:TokOK st l):l.all (okTok st)=true:=by
 rw[List.all_eq_true]
 intro q hq
 obtain⟨h1,h2,h3⟩:=h.2 q hq
 simp[okTok,can,h1,h2,h3]
theorem TokOK_more{st:St}{l:List (Nat×Nat)}(h:TokOK st l)(hf:st.fl≤st.nx)(ns:List Nat):TokOK (st.more ns) (l++enum st.nx ns):=by
 refine⟨fun k=>?_,fun q hq=>?_⟩
 ·rw[ck_append]
  have h1:=h.1 k
  have h2:= @enum_ck st.nx k ns
  by_cases hk:k<st.nx
  ·have:ck k (enum st.nx ns)=0:=ck_zero fun q hq=>by have:=enum_mem hq;omega
   omega
  ·have:ck k l=0:=ck_zero fun q hq=>by have:=(h.2 q hq).1;omega
   omega
 ·rw[St.more_nx,St.more_fl]
  rcases List.mem_append.1 hq with hq|hq
  ·obtain⟨h1,h2,h3⟩:=h.2 q hq
   exact⟨by omega,by rw[St.more_old _ _ h1];exact h2,h3⟩
  ·obtain⟨h1,h2,h3⟩:=enum_mem hq
   exact⟨by omega,by rw[St.more_new _ _ h1 h2];exact h3,by omega⟩
theorem TokOK_setO{st:St}{s:Nat}{c:List PV}{l:List (Nat×Nat)}(h:TokOK st l):TokOK (setO st s c) l:=h
structure Fresh (nx:Nat) (ns:List Nat) (r:PV):Prop where
 tk:toks r=enum nx ns
 so:solid r=true
 np:np r=true
theorem fresh_ren{r0:PV}(hs:solid r0=true)(hn:np r0=true)(hd:∀ k,ck k (toks r0)≤1)(nx:Nat):
  Fresh nx ((toks r0).map (·.2)) (ren (fun k=>some (nx+k)) false (ren (idxIn ((toks r0).map (·.1))) false r0))∧Fresh 0 ((toks r0).map (·.2)) (ren (idxIn ((toks r0).map (·.1))) false r0):=by
 have hm:∀ q∈toks r0,(idxIn ((toks r0).map (·.1)) q.1).isSome=true:=fun q hq=>idxIn_mem (List.mem_map.2 ⟨q,hq,rfl⟩)
 have h1:toks (ren (idxIn ((toks r0).map (·.1))) false r0)=(toks r0).map fun q=>((idxIn ((toks r0).map (·.1)) q.1).getD 0,q.2):=
  toks_ren _ (fun k=>(idxIn ((toks r0).map (·.1)) k).getD 0) r0 fun q hq=>by obtain⟨i,hi⟩:=Option.isSome_iff_exists.1 (hm q hq);rw[hi];rfl
 have hs1:=solid_ren (idxIn ((toks r0).map (·.1))) r0 hs hm
 refine⟨⟨?_,solid_ren _ _ hs1 fun _ _=>rfl,?_⟩,⟨?_,hs1,?_⟩⟩
 ·rw[toks_ren _ (fun k=>nx+k) _ fun _ _=>rfl,h1,List.map_map]
  exact idxIn_enum nx hd
 ·rw[PM.np,off_ren,off_ren];exact hn
 ·rw[h1];have:=idxIn_enum 0 hd;simpa using this
 ·rw[PM.np,off_ren];exact hn
theorem seal_fresh{r0:PV}{st1:St}(h:TokOK st1 (toks r0)):sealP true st1 r0 []=(ren (idxIn ((toks r0).map (·.1))) false r0,(toks r0).map (·.2),[]):=by
 have:tokAll []=[]:=rfl
 simp only[sealP,this,List.append_nil,nodupB_ck h.1,h.ok,Bool.and_self,if_true,List.map_nil]
def topE:PV→Option Nat
 | .list _ _ (.own _ e)=>some e
 |_=>none
theorem topE_ren{f:Nat→Option Nat}{p:PV}(h:∀ q∈toks p,(f q.1).isSome=true):topE (ren f false p)=topE p:=by
 cases p with
 |list n cs t=>
  rw[ren_list]
  cases t with
  |own k e=>
   obtain⟨j,hj⟩:=Option.isSome_iff_exists.1 (h (k,n) (by simp[toks]))
   have hj:f k=some j:=hj
   simp only[Tok.ren,hj,topE]
  |sub k=>simp only[Tok.ren];cases f k<;>rfl
  |el k e n=>simp only[Tok.ren];cases f k<;>rfl
  |_=>rfl
 |_=>rfl
def EndsO(rs:List CRes)(Q:PV→Option Nat→Prop)(e:Ex)(y:Fr×St):Prop:=endOk e∧∃ r0,ressP y.1 y.2 rs=some [r0]∧notRow r0=true∧np r0=true∧solid r0=true∧TokOK y.2 (toks r0)∧Q (strip r0) (topE r0)
section
variable {cf:CallF} {f:Nat} {F:CFn} {as:List PV} {st:St} {rs:List CRes}
theorem more_self(st:St)(ns:List Nat):{st.more ns with fl:=st.fl}=st.more ns:=by cases ns<;>rfl
theorem finish_own{F:CFn}{fr:Fr}{s1:St}{r0:PV}(hown:F.own=true)(hps:ressP fr s1 F.res=some [r0])(hr:notRow r0=true)(hp:np r0=true)(hk:TokOK s1 (toks r0)):
  finish F 0 fr s1=some (ren (idxIn ((toks r0).map (·.1))) false r0,(toks r0).map (·.2),[]):=by
 have h0:getAll s1 (List.range 0)=some []:=rfl
 have hm:=meltAll_all F.nk s1 [r0] (by simpa using hr)
 simp only[finish,hps,h0,hm,oneOf,hp,List.all_nil,Bool.and_self,if_true,hown,seal_fresh hk]
theorem run_own(hown:F.own=true)(hres:F.res=rs)(N:Nat){ns:List Nat}{Q:PV→Option Nat→Prop}(hnt:as.length≤F.nt)(h:Wp cf N F.body (frame as,stB ns []) (EndsO rs Q)):
  ∃ r ns',runFn cf N F as ns []=some (r,ns',[])∧Fresh 0 ns' r∧(∀ nx,Fresh nx ns' (ren (fun k=>some (nx+k)) false r))∧Q (strip r) (topE r):=by
 obtain⟨e,⟨fr,s1⟩,hev,he,r0,hps,hr,hp,hso,hk,hQ⟩:=h
 subst hres
 have hf:=finish_own hown hps hr hp hk
 refine⟨_,_,?_,(fresh_ren hso hp hk.1 0).2,fun nx=>(fresh_ren hso hp hk.1 nx).1,by rw[strip_ren,topE_ren fun q hq=>idxIn_mem (List.mem_map.2 ⟨q,hq,rfl⟩)];exact hQ⟩
 unfold runFn
 rw[if_pos ⟨hnt,Nat.zero_le _⟩,hev]
 cases e with
 |go=>exact hf
 |ret=>exact hf
 |exit i=>exact he.elim
theorem callP_own{r:PV}{ns:List Nat}(has:as.all plainArg=true)(hc:cf f (as.map strip) [] []=some (r,ns,[]))(hso:solid r=true):callP cf f as [] st=some (ren (fun k=>some (st.nx+k)) false r,st.more ns):=by
 rw[callP_plain has hc,solid_closed r hso,if_pos rfl]
 congr 2
 exact more_self st ns
theorem c_valO(K:Tab cf)(hT:T f=some F)(hres:F.res=rs)(hown:F.own=true)(hnt:as.length≤F.nt)(has:∀ p∈as,plainV p)(N:Nat){Q:PV→Prop}
  (h:Wp cf N F.body (frame as,stB [] []) (EndsO rs fun p _=>Q p)):∃ r ns,callP cf f as [] st=some (r,st.more ns)∧Fresh st.nx ns r∧Q (strip r):=by
 obtain⟨h1,h2⟩:=plainVs_arg has
 obtain⟨r,ns,hrun,hF0,hF,hQ⟩:=run_own hown hres N hnt h
 have hcf:=K f F hT N _ _ _ _ hrun
 refine⟨_,ns,callP_own h1 (by rw[h2];exact hcf) hF0.so,hF st.nx,by rw[strip_ren];exact hQ⟩
theorem RunsTo_OE{o:Option (PV×St)}{mk:PV→St→Fr×St}{A:Fr×St→Prop}{v:PV}(h:∃ r ns,o=some (r,st.more ns)∧Fresh st.nx ns r∧strip r=v)(k:∀ r ns,Fresh st.nx ns r→strip r=v→A (mk r (st.more ns))):RunsTo o mk A:=by
 obtain⟨r,ns,rfl,hF,hQ⟩:=h
 exact⟨_,_,rfl,k r ns hF hQ⟩
end
theorem strip_agg_inv{r:PV}{cs:List PV}(h:strip r= .agg cs):∃ ds,r= .agg ds∧strips ds=cs:=by
 cases r with
 |agg ds=>exact⟨ds,rfl,by simpa [strip,strips,ren]using h⟩
 |list n ds t=>simp[strip,ren]at h
 |iptr ds o t=>simp[strip,ren]at h
 |_=>simp[strip,ren]at h
theorem strip_list_inv{r:PV}{n:Nat}{cs:List PV}{t:Tok}(h:strip r= .list n cs t):∃ ds u,r= .list n ds u∧strips ds=cs∧t= .no:=by
 cases r with
 |list m ds u=>
  rw[strip_list]at h
  injection h with h1 h2 h3
  exact⟨ds,u,by rw[h1],h2,h3.symm⟩
 |agg ds=>simp[strip,ren]at h
 |iptr ds o t=>simp[strip,ren]at h
 |_=>simp[strip,ren]at h
theorem solids_append:∀ xs ys:List PV,solids (xs++ys)=(solids xs && solids ys)
 | [],ys=>rfl
 |x::xs,ys=>by simp only[List.cons_append,solids,solids_append xs ys,Bool.and_assoc]
theorem tokss_append:∀ xs ys:List PV,tokss (xs++ys)=tokss xs++tokss ys
 | [],ys=>rfl
 |x::xs,ys=>by simp only[List.cons_append,tokss,tokss_append xs ys,List.append_assoc]
def OutO(Q:PV→Option Nat→Prop)(r0:PV)(st:St):Prop:=notRow r0=true∧np r0=true∧solid r0=true∧TokOK st (toks r0)∧Q (strip r0) (topE r0)
def OutC(Q:PV→Option Nat→Prop)(o:Option PV)(st:St):Prop:=match o with
 |some p=>OutO Q p st
 |none=>False
theorem EndsO_tmp{e:Ex}(he:endOk e){t:Nat}{Q:PV→Option Nat→Prop}{fr:Fr}{st:St}:EndsO [.tmp t] Q e (fr,st)↔OutO Q (fr t) st:=by
 constructor
 ·rintro⟨-,r0,h,k⟩
  simp only[ressP,resP]at h
  cases h
  exact k
 ·rintro k
  exact⟨he,_,rfl,k⟩
theorem EndsO_cell{e:Ex}(he:endOk e){a sz:Nat}{ag:Bool}{Q:PV→Option Nat→Prop}{fr:Fr}{st:St}:EndsO [.cell a sz ag] Q e (fr,st)↔OutC Q (celP (fr a) sz ag st) st:=by
 have h0:resP fr st (.cell a sz ag)=celP (fr a) sz ag st:=rfl
 unfold EndsO
 rw[ressP_cons,h0]
 cases celP (fr a) sz ag st with
 |none=>simp[OutC,consO]
 |some p=>simp[OutC,ressP,consO,OutO,he]
def mk0P(e sz bytes:Nat)(n c:PV)(st:St):Option (PV×St):=match n,c with
  | .int .i64 0,.int .i64 b=>if 0≤b∧bytes*b.toNat≤byteBound∧b≤140737488355328∧0<sz then
    some (.list 0 [] (.own st.nx e),st.more [0])
   else none
  |_,_=>none
def mksP(e sz bytes:Nat)(d:Option Nat)(zs:List PV)(n c:PV)(st:St):Option (PV×St):=match d,n,c with
  |some s,.int .i64 a,.int .i64 b=>if a=b∧0≤a∧bytes*a.toNat≤byteBound∧a≤140737488355328∧zs.length=sz∧0<sz then
    some (.osl e sz s a.toNat,setO st s (List.replicate a.toNat zs).flatten)
   else none
  |_,_,_=>none
theorem mk0P_ok{e sz bytes:Nat}{b:Int}{st:St}(h1:0≤b)(h2:bytes*b.toNat≤140737488355328)(h3:b≤140737488355328)(h4:0<sz):mk0P e sz bytes (I 0) (I b) st=some (.list 0 [] (.own st.nx e),st.more [0]):=by
 have hb:byteBound=140737488355328:=rfl
 simp only[mk0P,hb,h1,h2,h3,h4,and_self,if_true]
theorem mksP_ok{e sz bytes s:Nat}{zs:List PV}{a:Int}{st:St}(h1:0≤a)(h2:bytes*a.toNat≤140737488355328)(h3:a≤140737488355328)(h4:zs.length=sz)(h5:0<sz):mksP e sz bytes (some s) zs (I a) (I a) st=some (.osl e sz s a.toNat,setO st s (List.replicate a.toNat zs).flatten):=by
 have hb:byteBound=140737488355328:=rfl
 simp only[mksP,hb,h1,h2,h3,h4,h5,and_self,if_true]
theorem pmj:
  (∀ {cf:CallF} {fr:Fr} {st:St} {d:Option Nat} {e sz b:Nat} {n c:CX},runOp cf fr st d (.mk0 e sz b n c)=mk0P e sz b (n.ev fr) (c.ev fr) st)∧
  (∀ {cf:CallF} {fr:Fr} {st:St} {d:Option Nat} {e sz b:Nat} {zs:List PV} {n c:CX},runOp cf fr st d (.mks e sz b zs n c)=mksP e sz b d zs (n.ev fr) (c.ev fr) st)∧
  (∀ {t:Nat} {Q:PV→Option Nat→Prop} {fr:Fr} {st:St},EndsO [.tmp t] Q .ret (fr,st)↔OutO Q (fr t) st)∧(∀ {a sz:Nat} {ag:Bool} {Q:PV→Option Nat→Prop} {fr:Fr} {st:St},EndsO [.cell a sz ag] Q .ret (fr,st)↔OutC Q (celP (fr a) sz ag st) st)∧
  (∀ {p:PV} {Q:PV→Option Nat→Prop} {st:St},OutC Q (some p) st↔OutO Q p st)∧(∀ {s off sz:Nat} {ag:Bool} {st:St},celP (.ptr s off) sz ag st=lodP (st.objs s) off sz ag)∧
  (∀ {st:St} {ns:List Nat},(st.more ns).objs=st.objs)∧(∀ {st:St} {ns:List Nat},(st.more ns).maps=st.maps)∧(∀ {st:St} {ns:List Nat},(st.more ns).nx=st.nx+ns.length):=
 ⟨by intros;rfl,by intros;rfl,EndsO_tmp (endOk_ret.2 trivial),EndsO_cell (endOk_ret.2 trivial),Iff.rfl,rfl,fun{st ns}=>St.more_objs st ns,fun{st ns}=>St.more_maps st ns,fun{st ns}=>St.more_nx st ns⟩
end Go.PM
