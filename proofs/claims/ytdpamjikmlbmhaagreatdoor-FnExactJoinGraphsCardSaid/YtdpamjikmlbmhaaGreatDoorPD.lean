/- A part of the proof: texts PfA, PoF, PoG, PoH, PoI, PoJ, PoK, PoL, PoM, PoN, joined. Conditions: none. -/
import Derived.Test.YtdpamjikmlbmhaaGreatDoorPC
set_option linter.all false
namespace Go.PM
def qm(d s:Nat):bz:=⟨none,some d,.mv (.sl s)⟩
def qi(d:Nat)(n:Int):bz:=⟨none,some d,.mv (.k (.int .i64 n))⟩
def qc(d:Nat)(p:PV):bz:=⟨none,some d,.mv (.k p)⟩
def qb(d:Nat)(op:BinOp)(x y:Nat):bz:=⟨none,some d,.bin op (.sl x) (.sl y)⟩
def qk(d:Nat)(op:BinOp)(x:Nat)(n:Int):bz:=⟨none,some d,.bin op (.sl x) (.k (.int .i64 n))⟩
def ql(d sz:Nat)(ag:Bool)(a:Nat):bz:=⟨none,some d,.load sz ag (.sl a)⟩
def qf(d o x:Nat):bz:=⟨none,some d,.fad o (.sl x)⟩
def qo(d:Nat)(p:dG):bz:=⟨none,some d,p⟩
def qN:PV:= .list 0 [] .nil
def qr(ops:List bz)(c:CC):CC:= .seq (.reg ops []) c
def qd(s:Nat)(a b:CC):CC:= .cond (.sl s) a b
def qe(p:dG):bz:=⟨none,none,p⟩
def qt(d f a:Nat):bz:=⟨none,some d,.call f [.sl a] []⟩
def qu(d f a b:Nat):bz:=⟨none,some d,.call f [.sl a,.sl b] []⟩
def qa(d z a b:Nat):bz:=⟨none,some d,.iad z (.sl a) (.sl b)⟩
def qx(d a b:Nat):bz:=⟨none,some d,.pick (.sl a) (.k (.bool true)) (.sl b)⟩
def qy(d a b:Nat):bz:=⟨none,some d,.pick (.sl a) (.sl b) (.k (.bool false))⟩
def qn(d a:Nat):bz:=⟨none,some d,.len (.sl a)⟩
def qs(z a b:Nat):bz:=⟨none,none,.store z (.sl a) (.sl b)⟩
def qg(o:List bz)(n:Nat)(x:bz)(c:CC):CC:= .seq (.seq (.reg o []) (.cond (.sl n) (.seq (.reg [x] []) .ret) .skip)) c
def F10:bn:=⟨13,0,(
 qr [qo 1 (.box 2 (.sl 0)),qo 2 (.alloc [qN,qN])]
 (qr [qo 3 (.alloc [qN,qN])]
 (qr [qf 4 0 1,ql 5 1 false 4,qt 6 44 5,qf 7 0 3,qs 1 7 6]
 (qr [qf 8 1 1,ql 9 1 false 8,qt 10 45 9,qf 11 1 3,qs 1 11 10]
 (qr [ql 12 2 true 3,qs 2 2 12]
 .ret))))),[.cell 2 2 true],true⟩
def F44:bn:=⟨23,0,(
 qr [qc 2 qN]
 (qr [qm 5 0,qn 6 5,qo 7 (.mks 72 3 56 [(.int .i64 0),qN,qN] (.sl 6) (.sl 6)),qm 3 7]
 (.seq (qr [qi 4 0]
 (.block 0 (.loop (.seq (qr [qm 8 4,qm 9 0,qn 10 9,qb 11 .lss 8 10]
 (qd 11 .skip (.exit 0)))
 (.seq (.block 1 (.reg [qm 14 3,qm 15 4,qm 16 0,qm 17 4,qa 18 3 16 17,ql 19 3 true 18,qt 20 86 19,qa 21 3 14 15,qs 3 21 20] []))
 (.reg [qm 12 4,qk 13 .add 12 1,qm 4 13] []))))))
 (qr [qm 22 3,qm 2 22]
 .ret)))),[.tmp 2],true⟩
def F45:bn:=⟨23,0,(
 qr [qc 2 qN]
 (qr [qm 5 0,qn 6 5,qo 7 (.mks 68 5 64 [(.int .i64 0),(.str ⟨#[]⟩),(.int .i64 0),(.int .i64 0),qN] (.sl 6) (.sl 6)),qm 3 7]
 (.seq (qr [qi 4 0]
 (.block 0 (.loop (.seq (qr [qm 8 4,qm 9 0,qn 10 9,qb 11 .lss 8 10]
 (qd 11 .skip (.exit 0)))
 (.seq (.block 1 (.reg [qm 14 3,qm 15 4,qm 16 0,qm 17 4,qa 18 5 16 17,ql 19 5 true 18,qt 20 87 19,qa 21 5 14 15,qs 5 21 20] []))
 (.reg [qm 12 4,qk 13 .add 12 1,qm 4 13] []))))))
 (qr [qm 22 3,qm 2 22]
 .ret)))),[.tmp 2],true⟩
def F86:bn:=⟨16,0,(
 qr [qo 1 (.box 3 (.sl 0)),qo 2 (.alloc [(.int .i64 0),qN,qN])]
 (qr [qo 3 (.alloc [(.int .i64 0),qN,qN])]
 (qr [qf 4 0 1,ql 5 1 false 4,qf 6 0 3,qs 1 6 5]
 (qr [qf 7 1 1,ql 8 1 false 7,qt 9 122 8,qf 10 1 3,qs 1 10 9]
 (qr [qf 11 2 1,ql 12 1 false 11,qt 13 123 12,qf 14 2 3,qs 1 14 13]
 (qr [ql 15 3 true 3,qs 3 2 15]
 .ret)))))),[.cell 2 3 true],true⟩
def F87:bn:=⟨21,0,(
 qr [qo 1 (.box 5 (.sl 0)),qo 2 (.alloc [(.int .i64 0),(.str ⟨#[]⟩),(.int .i64 0),(.int .i64 0),qN])]
 (qr [qo 3 (.alloc [(.int .i64 0),(.str ⟨#[]⟩),(.int .i64 0),(.int .i64 0),qN])]
 (qr [qf 4 0 1,ql 5 1 false 4,qf 6 0 3,qs 1 6 5]
 (qr [qf 7 1 1,ql 8 1 false 7,qf 9 1 3,qs 1 9 8]
 (qr [qf 10 2 1,ql 11 1 false 10,qf 12 2 3,qs 1 12 11]
 (qr [qf 13 3 1,ql 14 1 false 13,qf 15 3 3,qs 1 15 14]
 (qr [qf 16 4 1,ql 17 1 false 16,qt 18 123 17,qf 19 4 3,qs 1 19 18]
 (qr [ql 20 5 true 3,qs 5 2 20]
 .ret)))))))),[.cell 2 5 true],true⟩
def F122:bn:=⟨22,0,(
 qr [qc 2 qN]
 (qr [qm 5 0,qn 6 5,qo 7 (.mks 9 1 16 [(.str ⟨#[]⟩)] (.sl 6) (.sl 6)),qm 3 7]
 (.seq (qr [qi 4 0]
 (.block 0 (.loop (.seq (qr [qm 8 4,qm 9 0,qn 10 9,qb 11 .lss 8 10]
 (qd 11 .skip (.exit 0)))
 (.seq (.block 1 (.reg [qm 14 3,qm 15 4,qm 16 0,qm 17 4,qa 18 1 16 17,ql 19 1 false 18,qa 20 1 14 15,qs 1 20 19] []))
 (.reg [qm 12 4,qk 13 .add 12 1,qm 4 13] []))))))
 (qr [qm 21 3,qm 2 21]
 .ret)))),[.tmp 2],true⟩
def F123:bn:=⟨23,0,(
 qr [qc 2 qN]
 (qr [qm 5 0,qn 6 5,qo 7 (.mks 133 2 32 [(.str ⟨#[]⟩),(.str ⟨#[]⟩)] (.sl 6) (.sl 6)),qm 3 7]
 (.seq (qr [qi 4 0]
 (.block 0 (.loop (.seq (qr [qm 8 4,qm 9 0,qn 10 9,qb 11 .lss 8 10]
 (qd 11 .skip (.exit 0)))
 (.seq (.block 1 (.reg [qm 14 3,qm 15 4,qm 16 0,qm 17 4,qa 18 2 16 17,ql 19 2 true 18,qt 20 170 19,qa 21 2 14 15,qs 2 21 20] []))
 (.reg [qm 12 4,qk 13 .add 12 1,qm 4 13] []))))))
 (qr [qm 22 3,qm 2 22]
 .ret)))),[.tmp 2],true⟩
def F170:bn:=⟨11,0,(
 qr [qo 1 (.box 2 (.sl 0)),qo 2 (.alloc [(.str ⟨#[]⟩),(.str ⟨#[]⟩)])]
 (qr [qo 3 (.alloc [(.str ⟨#[]⟩),(.str ⟨#[]⟩)])]
 (qr [qf 4 0 1,ql 5 1 false 4,qf 6 0 3,qs 1 6 5]
 (qr [qf 7 1 1,ql 8 1 false 7,qf 9 1 3,qs 1 9 8]
 (qr [ql 10 2 true 3,qs 2 2 10]
 .ret))))),[.cell 2 2 true],true⟩
def F66:bn:=⟨12,0,(
 qr [qo 1 (.box 3 (.sl 0)),qo 2 (.alloc [(.int .i64 0),qN,qN])]
 (qr [qf 3 1 1,ql 4 1 false 3,qt 5 103 4,qf 6 1 1,qs 1 6 5]
 (qr [qf 7 2 1,ql 8 1 false 7,qt 9 108 8,qf 10 2 1,qs 1 10 9]
 (qr [ql 11 3 true 1,qs 3 2 11]
 .ret)))),[.cell 2 3 true],true⟩
def F68:bn:=⟨8,0,(
 qr [qo 1 (.box 5 (.sl 0)),qo 2 (.alloc [(.int .i64 0),(.str ⟨#[]⟩),(.int .i64 0),(.int .i64 0),qN])]
 (qr [qf 3 4 1,ql 4 1 false 3,qt 5 108 4,qf 6 4 1,qs 1 6 5]
 (qr [ql 7 5 true 1,qs 5 2 7]
 .ret))),[.cell 2 5 true],true⟩
def F103:bn:=⟨11,0,(
 qr [qc 2 qN]
 (qg [qm 3 0,qn 4 3,qk 5 .eql 4 0] 5 (qc 2 qN)
 (qr [qm 6 0,qn 7 6,qo 8 (.mk0 9 1 16 (.k (.int .i64 0)) (.sl 7)),qm 9 0,qo 10 (.app 9 1 16 (.sl 8) (.sl 9)),qm 2 10]
 .ret))),[.tmp 2],true⟩
def F108:bn:=⟨11,0,(
 qr [qc 2 qN]
 (qg [qm 3 0,qn 4 3,qk 5 .eql 4 0] 5 (qc 2 qN)
 (qr [qm 6 0,qn 7 6,qo 8 (.mk0 133 2 32 (.k (.int .i64 0)) (.sl 7)),qm 9 0,qo 10 (.app 133 2 32 (.sl 8) (.sl 9)),qm 2 10]
 .ret))),[.tmp 2],true⟩
def F8:bn:=⟨18,0,(
 qr [qo 2 (.box 2 (.sl 0)),qi 4 0]
 (qr [qf 5 0 2,ql 6 1 false 5,qm 7 1,qu 8 38 6 7,qm 1 8]
 (qg [qm 9 1,qk 10 .lss 9 0] 10 (qi 4 (-1))
 (qr [qf 11 1 2,ql 12 1 false 11,qm 13 1,qu 14 39 12 13,qm 1 14]
 (qg [qm 15 1,qk 16 .lss 15 0] 16 (qi 4 (-1))
 (qr [qm 17 1,qm 4 17]
 .ret)))))),[.tmp 4],false⟩
def F12:bn:=⟨27,0,(
 qr [qc 4 (.bool false)]
 (qg [qm 6 0,qn 7 6,qm 8 1,qn 9 8,qb 10 .neq 7 9] 10 (qc 4 (.bool false))
 (.seq (qr [qi 5 0]
 (.block 0 (.loop (.seq (qr [qm 11 5,qm 12 0,qn 13 12,qb 14 .lss 11 13]
 (qd 14 .skip (.exit 0)))
 (.seq (.block 1 (qr [qm 17 0,qm 18 5,qa 19 2 17 18,ql 20 2 true 19,qm 21 1,qm 22 5,qa 23 2 21 22,ql 24 2 true 23,qu 25 13 20 24,qo 26 (.un .not (.sl 25))]
 (qd 26 (qr [qc 4 (.bool false)]
 .ret) .skip)))
 (.reg [qm 15 5,qk 16 .add 15 1,qm 5 16] []))))))
 (qr [qc 4 (.bool true)]
 .ret)))),[.tmp 4],false⟩
def F13:bn:=⟨17,0,(
 qr [qo 2 (.box 2 (.sl 0)),qo 3 (.box 2 (.sl 1)),qc 4 (.bool false)]
 (qg [qf 5 0 2,ql 6 1 false 5,qf 7 0 3,ql 8 1 false 7,qu 9 48 6 8,qo 10 (.un .not (.sl 9))] 10 (qc 4 (.bool false))
 (qg [qf 11 1 2,ql 12 1 false 11,qf 13 1 3,ql 14 1 false 13,qu 15 49 12 14,qo 16 (.un .not (.sl 15))] 16 (qc 4 (.bool false))
 (qr [qc 4 (.bool true)]
 .ret)))),[.tmp 4],false⟩
def F38:bn:=⟨27,0,(
 qr [qi 4 0]
 (qr [qm 6 1,qm 7 0,qn 8 7,qb 9 .sub 6 8,qm 1 9]
 (qg [qm 10 1,qk 11 .lss 10 0] 11 (qi 4 (-1))
 (.seq (qr [qi 5 0]
 (.block 0 (.loop (.seq (qr [qm 12 5,qm 13 0,qn 14 13,qb 15 .lss 12 14]
 (qd 15 .skip (.exit 0)))
 (.seq (.block 1 (qr [qm 18 0,qm 19 5,qa 20 3 18 19,ql 21 3 true 20,qm 22 1,qu 23 79 21 22,qm 1 23]
 (qr [qm 24 1,qk 25 .lss 24 0]
 (qd 25 (qr [qi 4 (-1)]
 .ret) .skip))))
 (.reg [qm 16 5,qk 17 .add 16 1,qm 5 17] []))))))
 (qr [qm 26 1,qm 4 26]
 .ret))))),[.tmp 4],false⟩
def F39:bn:=⟨27,0,(
 qr [qi 4 0]
 (qr [qm 6 1,qm 7 0,qn 8 7,qb 9 .sub 6 8,qm 1 9]
 (qg [qm 10 1,qk 11 .lss 10 0] 11 (qi 4 (-1))
 (.seq (qr [qi 5 0]
 (.block 0 (.loop (.seq (qr [qm 12 5,qm 13 0,qn 14 13,qb 15 .lss 12 14]
 (qd 15 .skip (.exit 0)))
 (.seq (.block 1 (qr [qm 18 0,qm 19 5,qa 20 5 18 19,ql 21 5 true 20,qm 22 1,qu 23 80 21 22,qm 1 23]
 (qr [qm 24 1,qk 25 .lss 24 0]
 (qd 25 (qr [qi 4 (-1)]
 .ret) .skip))))
 (.reg [qm 16 5,qk 17 .add 16 1,qm 5 17] []))))))
 (qr [qm 26 1,qm 4 26]
 .ret))))),[.tmp 4],false⟩
def F48:bn:=⟨27,0,(
 qr [qc 4 (.bool false)]
 (qg [qm 6 0,qn 7 6,qm 8 1,qn 9 8,qb 10 .neq 7 9] 10 (qc 4 (.bool false))
 (.seq (qr [qi 5 0]
 (.block 0 (.loop (.seq (qr [qm 11 5,qm 12 0,qn 13 12,qb 14 .lss 11 13]
 (qd 14 .skip (.exit 0)))
 (.seq (.block 1 (qr [qm 17 0,qm 18 5,qa 19 3 17 18,ql 20 3 true 19,qm 21 1,qm 22 5,qa 23 3 21 22,ql 24 3 true 23,qu 25 93 20 24,qo 26 (.un .not (.sl 25))]
 (qd 26 (qr [qc 4 (.bool false)]
 .ret) .skip)))
 (.reg [qm 15 5,qk 16 .add 15 1,qm 5 16] []))))))
 (qr [qc 4 (.bool true)]
 .ret)))),[.tmp 4],false⟩
def F49:bn:=⟨27,0,(
 qr [qc 4 (.bool false)]
 (qg [qm 6 0,qn 7 6,qm 8 1,qn 9 8,qb 10 .neq 7 9] 10 (qc 4 (.bool false))
 (.seq (qr [qi 5 0]
 (.block 0 (.loop (.seq (qr [qm 11 5,qm 12 0,qn 13 12,qb 14 .lss 11 13]
 (qd 14 .skip (.exit 0)))
 (.seq (.block 1 (qr [qm 17 0,qm 18 5,qa 19 5 17 18,ql 20 5 true 19,qm 21 1,qm 22 5,qa 23 5 21 22,ql 24 5 true 23,qu 25 94 20 24,qo 26 (.un .not (.sl 25))]
 (qd 26 (qr [qc 4 (.bool false)]
 .ret) .skip)))
 (.reg [qm 15 5,qk 16 .add 15 1,qm 5 16] []))))))
 (qr [qc 4 (.bool true)]
 .ret)))),[.tmp 4],false⟩
def F52:bn:=⟨40,0,(
 qr [qi 4 0]
 (.seq (qr [qi 5 0]
 (.block 0 (.loop (.seq (qr [qm 6 5,qm 7 0,qn 8 7,qb 9 .lss 6 8]
 (qd 9 .skip (.exit 0)))
 (.seq (.block 1 (qg [qm 12 0,qm 13 5,qa 14 3 12 13,qf 15 0 14,ql 16 1 false 15,qm 17 1,qb 18 .neq 16 17] 18 (qi 4 (-1))
 (qr [qm 19 1,qk 20 .add 19 1,qm 1 20]
 (qr [qm 21 0,qm 22 5,qa 23 3 21 22,qf 24 1 23,ql 25 1 false 24,qm 26 1,qu 27 60 25 26,qm 1 27]
 (qg [qm 28 1,qk 29 .lss 28 0] 29 (qi 4 (-1))
 (qr [qm 30 0,qm 31 5,qa 32 3 30 31,qf 33 2 32,ql 34 1 false 33,qm 35 1,qu 36 61 34 35,qm 1 36]
 (qr [qm 37 1,qk 38 .lss 37 0]
 (qd 38 (qr [qi 4 (-1)]
 .ret) .skip))))))))
 (.reg [qm 10 5,qk 11 .add 10 1,qm 5 11] []))))))
 (qr [qm 39 1,qm 4 39]
 .ret))),[.tmp 4],false⟩
def F53:bn:=⟨59,0,(
 qr [qi 4 0]
 (.seq (qr [qi 5 0]
 (.block 0 (.loop (.seq (qr [qm 6 5,qm 7 0,qn 8 7,qb 9 .lss 6 8]
 (qd 9 .skip (.exit 0)))
 (.seq (.block 1 (qg [qm 12 0,qm 13 5,qa 14 5 12 13,qf 15 0 14,ql 16 1 false 15,qm 17 1,qb 18 .neq 16 17] 18 (qi 4 (-1))
 (qr [qm 19 1,qk 20 .add 19 1,qm 1 20]
 (.seq (.seq (.reg [qm 21 0,qm 22 5,qa 23 5 21 22,qf 24 1 23,ql 25 1 false 24,qm 26 1,qt 27 59 26,qb 28 .neq 25 27] [(4,6)])
 (qd 28 (qr [qi 4 (-1)]
 .ret) .skip))
 (qr [qm 29 1,qk 30 .add 29 1,qm 1 30]
 (qg [qm 31 0,qm 32 5,qa 33 5 31 32,qf 34 2 33,ql 35 1 false 34,qm 36 1,qb 37 .neq 35 36] 37 (qi 4 (-1))
 (qr [qm 38 1,qk 39 .add 38 1,qm 1 39]
 (qg [qm 40 0,qm 41 5,qa 42 5 40 41,qf 43 3 42,ql 44 1 false 43,qm 45 1,qb 46 .neq 44 45] 46 (qi 4 (-1))
 (qr [qm 47 1,qk 48 .add 47 1,qm 1 48]
 (qr [qm 49 0,qm 50 5,qa 51 5 49 50,qf 52 4 51,ql 53 1 false 52,qm 54 1,qu 55 61 53 54,qm 1 55]
 (qr [qm 56 1,qk 57 .lss 56 0]
 (qd 57 (qr [qi 4 (-1)]
 .ret) .skip))))))))))))
 (.reg [qm 10 5,qk 11 .add 10 1,qm 5 11] []))))))
 (qr [qm 58 1,qm 4 58]
 .ret))),[.tmp 4],false⟩
def F59:bn:=⟨20,0,(
 qr [qc 2 (.str ⟨#[]⟩)]
 (qg [qm 4 0,qk 5 .leq 4 0] 5 (qc 2 (.str ⟨#[109,48]⟩))
 (qr [qc 3 (.str ⟨#[]⟩)]
 (.seq (.block 0 (.loop (.seq (qr [qm 6 0,qk 7 .gtr 6 0]
 (qd 7 .skip (.exit 0)))
 (.block 1 (qr [qm 8 0,qk 9 .rem 8 10,qo 10 (.bin .add (.k (.int .i64 48)) (.sl 9)),qo 11 (.toInt .u8 (.sl 10)),qo 12 (.bsl 5 1 [(.int .u8 0)] 1 [(0,1,(.sl 11))]),qo 13 (.b2s (.sl 12)),qm 14 3,qb 15 .add 13 14,qm 3 15]
 (.reg [qm 16 0,qk 17 .quo 16 10,qm 0 17] []))))))
 (qr [qm 18 3,qo 19 (.bin .add (.k (.str ⟨#[109]⟩)) (.sl 18)),qm 2 19]
 .ret))))),[.tmp 2],false⟩
def F60:bn:=⟨22,0,(
 qr [qi 4 0]
 (.seq (qr [qi 5 0]
 (.block 0 (.loop (.seq (qr [qm 6 5,qm 7 0,qn 8 7,qb 9 .lss 6 8]
 (qd 9 .skip (.exit 0)))
 (.seq (.block 1 (.seq (.seq (.reg [qm 12 0,qm 13 5,qa 14 1 12 13,ql 15 1 false 14,qm 16 1,qt 17 59 16,qb 18 .neq 15 17] [(3,5)])
 (qd 18 (qr [qi 4 (-1)]
 .ret) .skip))
 (.reg [qm 19 1,qk 20 .add 19 1,qm 1 20] [])))
 (.reg [qm 10 5,qk 11 .add 10 1,qm 5 11] []))))))
 (qr [qm 21 1,qm 4 21]
 .ret))),[.tmp 4],false⟩
def F61:bn:=⟨33,0,(
 qr [qi 4 0]
 (.seq (qr [qi 5 0]
 (.block 0 (.loop (.seq (qr [qm 6 5,qm 7 0,qn 8 7,qb 9 .lss 6 8]
 (qd 9 .skip (.exit 0)))
 (.seq (.block 1 (.seq (.seq (.reg [qm 12 0,qm 13 5,qa 14 2 12 13,qf 15 0 14,ql 16 1 false 15,qm 17 1,qt 18 59 17,qb 19 .neq 16 18] [(4,6)])
 (qd 19 (qr [qi 4 (-1)]
 .ret) .skip))
 (qr [qm 20 1,qk 21 .add 20 1,qm 1 21]
 (.seq (.seq (.reg [qm 22 0,qm 23 5,qa 24 2 22 23,qf 25 1 24,ql 26 1 false 25,qm 27 1,qt 28 59 27,qb 29 .neq 26 28] [(4,6)])
 (qd 29 (qr [qi 4 (-1)]
 .ret) .skip))
 (.reg [qm 30 1,qk 31 .add 30 1,qm 1 31] [])))))
 (.reg [qm 10 5,qk 11 .add 10 1,qm 5 11] []))))))
 (qr [qm 32 1,qm 4 32]
 .ret))),[.tmp 4],false⟩
def F79:bn:=⟨18,0,(
 qr [qo 2 (.box 3 (.sl 0)),qi 4 0]
 (qr [qf 5 1 2,ql 6 1 false 5,qm 7 1,qu 8 116 6 7,qm 1 8]
 (qg [qm 9 1,qk 10 .lss 9 0] 10 (qi 4 (-1))
 (qr [qf 11 2 2,ql 12 1 false 11,qm 13 1,qu 14 117 12 13,qm 1 14]
 (qg [qm 15 1,qk 16 .lss 15 0] 16 (qi 4 (-1))
 (qr [qm 17 1,qm 4 17]
 .ret)))))),[.tmp 4],false⟩
def F80:bn:=⟨19,0,(
 qr [qo 2 (.box 5 (.sl 0)),qi 4 0]
 (qr [qm 5 1,qf 6 1 2,ql 7 1 false 6,qo 8 (.slen (.sl 7)),qb 9 .sub 5 8,qm 1 9]
 (qg [qm 10 1,qk 11 .lss 10 0] 11 (qi 4 (-1))
 (qr [qf 12 4 2,ql 13 1 false 12,qm 14 1,qu 15 117 13 14,qm 1 15]
 (qg [qm 16 1,qk 17 .lss 16 0] 17 (qi 4 (-1))
 (qr [qm 18 1,qm 4 18]
 .ret)))))),[.tmp 4],false⟩
def F93:bn:=⟨22,0,(
 qr [qo 2 (.box 3 (.sl 0)),qo 3 (.box 3 (.sl 1)),qc 4 (.bool false)]
 (qg [qf 5 0 2,ql 6 1 false 5,qf 7 0 3,ql 8 1 false 7,qb 9 .neq 6 8] 9 (qc 4 (.bool false))
 (qg [qf 10 1 2,ql 11 1 false 10,qf 12 1 3,ql 13 1 false 12,qu 14 129 11 13,qo 15 (.un .not (.sl 14))] 15 (qc 4 (.bool false))
 (qg [qf 16 2 2,ql 17 1 false 16,qf 18 2 3,ql 19 1 false 18,qu 20 130 17 19,qo 21 (.un .not (.sl 20))] 21 (qc 4 (.bool false))
 (qr [qc 4 (.bool true)]
 .ret))))),[.tmp 4],false⟩
def F94:bn:=⟨31,0,(
 qr [qo 2 (.box 5 (.sl 0)),qo 3 (.box 5 (.sl 1)),qc 4 (.bool false)]
 (qg [qf 5 0 2,ql 6 1 false 5,qf 7 0 3,ql 8 1 false 7,qb 9 .neq 6 8] 9 (qc 4 (.bool false))
 (qg [qf 10 1 2,ql 11 1 false 10,qf 12 1 3,ql 13 1 false 12,qb 14 .neq 11 13] 14 (qc 4 (.bool false))
 (qg [qf 15 2 2,ql 16 1 false 15,qf 17 2 3,ql 18 1 false 17,qb 19 .neq 16 18] 19 (qc 4 (.bool false))
 (qg [qf 20 3 2,ql 21 1 false 20,qf 22 3 3,ql 23 1 false 22,qb 24 .neq 21 23] 24 (qc 4 (.bool false))
 (qg [qf 25 4 2,ql 26 1 false 25,qf 27 4 3,ql 28 1 false 27,qu 29 130 26 28,qo 30 (.un .not (.sl 29))] 30 (qc 4 (.bool false))
 (qr [qc 4 (.bool true)]
 .ret))))))),[.tmp 4],false⟩
def F116:bn:=⟨28,0,(
 qr [qi 4 0]
 (qr [qm 6 1,qm 7 0,qn 8 7,qb 9 .sub 6 8,qm 1 9]
 (qg [qm 10 1,qk 11 .lss 10 0] 11 (qi 4 (-1))
 (.seq (qr [qi 5 0]
 (.block 0 (.loop (.seq (qr [qm 12 5,qm 13 0,qn 14 13,qb 15 .lss 12 14]
 (qd 15 .skip (.exit 0)))
 (.seq (.block 1 (qr [qm 18 1,qm 19 0,qm 20 5,qa 21 1 19 20,ql 22 1 false 21,qo 23 (.slen (.sl 22)),qb 24 .sub 18 23,qm 1 24]
 (qr [qm 25 1,qk 26 .lss 25 0]
 (qd 26 (qr [qi 4 (-1)]
 .ret) .skip))))
 (.reg [qm 16 5,qk 17 .add 16 1,qm 5 17] []))))))
 (qr [qm 27 1,qm 4 27]
 .ret))))),[.tmp 4],false⟩
def F117:bn:=⟨27,0,(
 qr [qi 4 0]
 (qr [qm 6 1,qm 7 0,qn 8 7,qb 9 .sub 6 8,qm 1 9]
 (qg [qm 10 1,qk 11 .lss 10 0] 11 (qi 4 (-1))
 (.seq (qr [qi 5 0]
 (.block 0 (.loop (.seq (qr [qm 12 5,qm 13 0,qn 14 13,qb 15 .lss 12 14]
 (qd 15 .skip (.exit 0)))
 (.seq (.block 1 (qr [qm 18 0,qm 19 5,qa 20 2 18 19,ql 21 2 true 20,qm 22 1,qu 23 165 21 22,qm 1 23]
 (qr [qm 24 1,qk 25 .lss 24 0]
 (qd 25 (qr [qi 4 (-1)]
 .ret) .skip))))
 (.reg [qm 16 5,qk 17 .add 16 1,qm 5 17] []))))))
 (qr [qm 26 1,qm 4 26]
 .ret))))),[.tmp 4],false⟩
def F129:bn:=⟨26,0,(
 qr [qc 4 (.bool false)]
 (qg [qm 6 0,qn 7 6,qm 8 1,qn 9 8,qb 10 .neq 7 9] 10 (qc 4 (.bool false))
 (.seq (qr [qi 5 0]
 (.block 0 (.loop (.seq (qr [qm 11 5,qm 12 0,qn 13 12,qb 14 .lss 11 13]
 (qd 14 .skip (.exit 0)))
 (.seq (.block 1 (qr [qm 17 0,qm 18 5,qa 19 1 17 18,ql 20 1 false 19,qm 21 1,qm 22 5,qa 23 1 21 22,ql 24 1 false 23,qb 25 .neq 20 24]
 (qd 25 (qr [qc 4 (.bool false)]
 .ret) .skip)))
 (.reg [qm 15 5,qk 16 .add 15 1,qm 5 16] []))))))
 (qr [qc 4 (.bool true)]
 .ret)))),[.tmp 4],false⟩
def F130:bn:=⟨27,0,(
 qr [qc 4 (.bool false)]
 (qg [qm 6 0,qn 7 6,qm 8 1,qn 9 8,qb 10 .neq 7 9] 10 (qc 4 (.bool false))
 (.seq (qr [qi 5 0]
 (.block 0 (.loop (.seq (qr [qm 11 5,qm 12 0,qn 13 12,qb 14 .lss 11 13]
 (qd 14 .skip (.exit 0)))
 (.seq (.block 1 (qr [qm 17 0,qm 18 5,qa 19 2 17 18,ql 20 2 true 19,qm 21 1,qm 22 5,qa 23 2 21 22,ql 24 2 true 23,qu 25 176 20 24,qo 26 (.un .not (.sl 25))]
 (qd 26 (qr [qc 4 (.bool false)]
 .ret) .skip)))
 (.reg [qm 15 5,qk 16 .add 15 1,qm 5 16] []))))))
 (qr [qc 4 (.bool true)]
 .ret)))),[.tmp 4],false⟩
def F165:bn:=⟨20,0,(
 qr [qo 2 (.box 2 (.sl 0)),qi 4 0]
 (qr [qm 5 1,qf 6 0 2,ql 7 1 false 6,qo 8 (.slen (.sl 7)),qb 9 .sub 5 8,qm 1 9]
 (qg [qm 10 1,qk 11 .lss 10 0] 11 (qi 4 (-1))
 (qr [qm 12 1,qf 13 1 2,ql 14 1 false 13,qo 15 (.slen (.sl 14)),qb 16 .sub 12 15,qm 1 16]
 (qg [qm 17 1,qk 18 .lss 17 0] 18 (qi 4 (-1))
 (qr [qm 19 1,qm 4 19]
 .ret)))))),[.tmp 4],false⟩
def F176:bn:=⟨15,0,(
 qr [qo 2 (.box 2 (.sl 0)),qo 3 (.box 2 (.sl 1)),qc 4 (.bool false)]
 (qg [qf 5 0 2,ql 6 1 false 5,qf 7 0 3,ql 8 1 false 7,qb 9 .neq 6 8] 9 (qc 4 (.bool false))
 (qg [qf 10 1 2,ql 11 1 false 10,qf 12 1 3,ql 13 1 false 12,qb 14 .neq 11 13] 14 (qc 4 (.bool false))
 (qr [qc 4 (.bool true)]
 .ret)))),[.tmp 4],false⟩
def F40:bn:=⟨95,0,(
 qr [qo 1 (.box 2 (.sl 0)),qi 2 0]
 (qg [qf 6 0 1,ql 7 1 false 6,qn 8 7,qk 9 .gtr 8 200,qm 10 9,⟨(some (10,false)),(some 11),.fad 1 (.sl 1)⟩,⟨(some (10,false)),(some 12),.load 1 false (.sl 11)⟩,⟨(some (10,false)),(some 13),.len (.sl 12)⟩,⟨(some (10,false)),(some 14),.bin .gtr (.sl 13) (.k (.int .i64 400))⟩,qx 15 10 14] 15 (qi 2 1)
 (.seq (qr [qi 3 0]
 (.block 0 (.loop (.seq (qr [qm 16 3,qf 17 0 1,ql 18 1 false 17,qn 19 18,qb 20 .lss 16 19]
 (qd 20 .skip (.exit 0)))
 (.seq (.block 1 (qr [qf 23 0 1,ql 24 1 false 23,qm 25 3,qa 26 3 24 25,ql 27 3 true 26,qt 28 81 27,qo 29 (.un .not (.sl 28)),qm 30 29,⟨(some (30,false)),(some 31),.mv (.sl 3)⟩,⟨(some (30,false)),(some 32),.bin .gtr (.sl 31) (.k (.int .i64 0))⟩,⟨(some (30,false)),(some 33),.mv (.sl 32)⟩,⟨(some (33,true)),(some 34),.fad 0 (.sl 1)⟩,⟨(some (33,true)),(some 35),.load 1 false (.sl 34)⟩,⟨(some (33,true)),(some 36),.mv (.sl 3)⟩,⟨(some (33,true)),(some 37),.bin .sub (.sl 36) (.k (.int .i64 1))⟩,⟨(some (33,true)),(some 38),.iad 3 (.sl 35) (.sl 37)⟩,⟨(some (33,true)),(some 39),.fad 0 (.sl 38)⟩,⟨(some (33,true)),(some 40),.load 1 false (.sl 39)⟩,⟨(some (33,true)),(some 41),.fad 0 (.sl 1)⟩,⟨(some (33,true)),(some 42),.load 1 false (.sl 41)⟩,⟨(some (33,true)),(some 43),.mv (.sl 3)⟩,⟨(some (33,true)),(some 44),.iad 3 (.sl 42) (.sl 43)⟩,⟨(some (33,true)),(some 45),.fad 0 (.sl 44)⟩,⟨(some (33,true)),(some 46),.load 1 false (.sl 45)⟩,⟨(some (33,true)),(some 47),.bin .geq (.sl 40) (.sl 46)⟩,⟨(some (30,false)),(some 48),.pick (.sl 33) (.sl 47) (.k (.bool false))⟩,qx 49 30 48]
 (qd 49 (qr [qi 2 1]
 .ret) .skip)))
 (.reg [qm 21 3,qk 22 .add 21 1,qm 3 22] []))))))
 (.seq (qr [qi 4 0]
 (.block 2 (.loop (.seq (qr [qm 50 4,qf 51 1 1,ql 52 1 false 51,qn 53 52,qb 54 .lss 50 53]
 (qd 54 .skip (.exit 2)))
 (.seq (.block 3 (qr [qf 57 1 1,ql 58 1 false 57,qm 59 4,qa 60 5 58 59,ql 61 5 true 60,qo 5 (.alloc [(.int .i64 0),(.str ⟨#[]⟩),(.int .i64 0),(.int .i64 0),qN]),qs 5 5 61]
 (qr [ql 62 5 true 5,qt 63 82 62,qo 64 (.un .not (.sl 63)),qm 65 64,⟨(some (65,false)),(some 66),.mv (.sl 4)⟩,⟨(some (65,false)),(some 67),.bin .gtr (.sl 66) (.k (.int .i64 0))⟩,⟨(some (65,false)),(some 68),.mv (.sl 67)⟩,⟨(some (68,true)),(some 69),.fad 1 (.sl 1)⟩,⟨(some (68,true)),(some 70),.load 1 false (.sl 69)⟩,⟨(some (68,true)),(some 71),.mv (.sl 4)⟩,⟨(some (68,true)),(some 72),.bin .sub (.sl 71) (.k (.int .i64 1))⟩,⟨(some (68,true)),(some 73),.iad 5 (.sl 70) (.sl 72)⟩,⟨(some (68,true)),(some 74),.fad 0 (.sl 73)⟩,⟨(some (68,true)),(some 75),.load 1 false (.sl 74)⟩,⟨(some (68,true)),(some 76),.fad 0 (.sl 5)⟩,⟨(some (68,true)),(some 77),.load 1 false (.sl 76)⟩,⟨(some (68,true)),(some 78),.bin .geq (.sl 75) (.sl 77)⟩,⟨(some (65,false)),(some 79),.pick (.sl 68) (.sl 78) (.k (.bool false))⟩,qx 80 65 79,qm 81 80,⟨(some (81,false)),(some 82),.load 2 true (.sl 1)⟩,⟨(some (81,false)),(some 83),.fad 2 (.sl 5)⟩,⟨(some (81,false)),(some 84),.load 1 false (.sl 83)⟩,⟨(some (81,false)),(some 85),.call 83 [(.sl 82),(.sl 84)] []⟩,⟨(some (81,false)),(some 86),.bin .lss (.sl 85) (.k (.int .i64 0))⟩,qx 87 81 86,qm 88 87,⟨(some (88,false)),(some 89),.load 2 true (.sl 1)⟩,⟨(some (88,false)),(some 90),.fad 3 (.sl 5)⟩,⟨(some (88,false)),(some 91),.load 1 false (.sl 90)⟩,⟨(some (88,false)),(some 92),.call 83 [(.sl 89),(.sl 91)] []⟩,⟨(some (88,false)),(some 93),.bin .lss (.sl 92) (.k (.int .i64 0))⟩,qx 94 88 93]
 (qd 94 (qr [qi 2 1]
 .ret) .skip))))
 (.reg [qm 55 4,qk 56 .add 55 1,qm 4 56] []))))))
 (qr [qi 2 0]
 .ret))))),[.tmp 2],false⟩
def F41:bn:=⟨8,0,(
 qr [qo 1 (.box 5 (.sl 0)),qo 2 (.alloc [(.int .i64 0),(.str ⟨#[]⟩),(.int .i64 0),(.int .i64 0),qN])]
 (qr [qf 3 4 1,ql 4 1 false 3,qt 5 84 4,qf 6 4 1,qs 1 6 5]
 (qr [ql 7 5 true 1,qs 5 2 7]
 .ret))),[.cell 2 5 true],false⟩
def F42:bn:=⟨12,0,(
 qr [qo 1 (.box 3 (.sl 0)),qo 2 (.alloc [(.int .i64 0),qN,qN])]
 (.seq (.reg [qf 3 0 1,ql 4 1 false 3,qf 5 1 1,ql 6 1 false 5,qt 7 85 6,qf 8 2 1,ql 9 1 false 8,qt 10 84 9,qo 11 (.build [(.int .i64 0),qN,qN] [(0,1,(.sl 4)),(1,1,(.sl 7)),(2,1,(.sl 10))]),qs 3 2 11] [(1,4),(4,6),(1,7)])
 .ret)),[.cell 2 3 true],false⟩
def F43:bn:=⟨52,0,(
 qr [qo 3 (.box 2 (.sl 0)),qc 6 qN]
 (qr [qo 9 (.bsl 2 1 [(.int .i64 0)] 0 []),qm 7 9]
 (.seq (qr [qi 8 0]
 (.block 0 (.loop (.seq (qr [qm 10 8,qf 11 1 3,ql 12 1 false 11,qn 13 12,qb 14 .lss 10 13]
 (qd 14 .skip (.exit 0)))
 (.seq (.block 1 (qr [qm 17 2,qm 18 17,⟨(some (18,true)),(some 19),.fad 1 (.sl 3)⟩,⟨(some (18,true)),(some 20),.load 1 false (.sl 19)⟩,⟨(some (18,true)),(some 21),.mv (.sl 8)⟩,⟨(some (18,true)),(some 22),.iad 5 (.sl 20) (.sl 21)⟩,⟨(some (18,true)),(some 23),.fad 2 (.sl 22)⟩,⟨(some (18,true)),(some 24),.load 1 false (.sl 23)⟩,⟨(some (18,true)),(some 25),.mv (.sl 1)⟩,⟨(some (18,true)),(some 26),.bin .eql (.sl 24) (.sl 25)⟩,qy 27 18 26,qm 28 27,⟨(some (28,false)),(some 29),.mv (.sl 2)⟩,⟨(some (28,false)),(some 30),.un .not (.sl 29)⟩,⟨(some (28,false)),(some 31),.mv (.sl 30)⟩,⟨(some (31,true)),(some 32),.fad 1 (.sl 3)⟩,⟨(some (31,true)),(some 33),.load 1 false (.sl 32)⟩,⟨(some (31,true)),(some 34),.mv (.sl 8)⟩,⟨(some (31,true)),(some 35),.iad 5 (.sl 33) (.sl 34)⟩,⟨(some (31,true)),(some 36),.fad 3 (.sl 35)⟩,⟨(some (31,true)),(some 37),.load 1 false (.sl 36)⟩,⟨(some (31,true)),(some 38),.mv (.sl 1)⟩,⟨(some (31,true)),(some 39),.bin .eql (.sl 37) (.sl 38)⟩,⟨(some (28,false)),(some 40),.pick (.sl 31) (.sl 39) (.k (.bool false))⟩,qx 41 28 40]
 (qd 41 (.reg [qm 42 7,qf 43 1 3,ql 44 1 false 43,qm 45 8,qa 46 5 44 45,qf 47 0 46,ql 48 1 false 47,qo 49 (.bsl 2 1 [(.int .i64 0)] 1 [(0,1,(.sl 48))]),qo 50 (.app 2 1 8 (.sl 42) (.sl 49)),qm 7 50] []) .skip)))
 (.reg [qm 15 8,qk 16 .add 15 1,qm 8 16] []))))))
 (qr [qm 51 7,qm 6 51]
 .ret)))),[.tmp 6],false⟩
def F81:bn:=⟨16,0,(
 qr [qo 1 (.box 3 (.sl 0)),qc 2 (.bool false)]
 (qr [qf 3 0 1,ql 4 1 false 3,qt 5 118 4,qm 6 5,⟨(some (6,true)),(some 7),.fad 1 (.sl 1)⟩,⟨(some (6,true)),(some 8),.load 1 false (.sl 7)⟩,⟨(some (6,true)),(some 9),.call 119 [.sl 8] []⟩,qy 10 6 9,qm 11 10,⟨(some (11,true)),(some 12),.fad 2 (.sl 1)⟩,⟨(some (11,true)),(some 13),.load 1 false (.sl 12)⟩,⟨(some (11,true)),(some 14),.call 120 [.sl 13] []⟩,qy 15 11 14,qm 2 15]
 .ret)),[.tmp 2],false⟩
def F82:bn:=⟨26,0,(
 qr [qo 1 (.box 5 (.sl 0)),qc 2 (.bool false)]
 (qr [qf 3 0 1,ql 4 1 false 3,qt 5 118 4,qm 6 5,⟨(some (6,true)),(some 7),.fad 1 (.sl 1)⟩,⟨(some (6,true)),(some 8),.load 1 false (.sl 7)⟩,⟨(some (6,true)),(some 9),.call 121 [.sl 8] []⟩,qy 10 6 9,qm 11 10,⟨(some (11,true)),(some 12),.fad 2 (.sl 1)⟩,⟨(some (11,true)),(some 13),.load 1 false (.sl 12)⟩,⟨(some (11,true)),(some 14),.call 118 [.sl 13] []⟩,qy 15 11 14,qm 16 15,⟨(some (16,true)),(some 17),.fad 3 (.sl 1)⟩,⟨(some (16,true)),(some 18),.load 1 false (.sl 17)⟩,⟨(some (16,true)),(some 19),.call 118 [.sl 18] []⟩,qy 20 16 19,qm 21 20,⟨(some (21,true)),(some 22),.fad 4 (.sl 1)⟩,⟨(some (21,true)),(some 23),.load 1 false (.sl 22)⟩,⟨(some (21,true)),(some 24),.call 120 [.sl 23] []⟩,qy 25 21 24,qm 2 25]
 .ret)),[.tmp 2],false⟩
def F83:bn:=⟨22,0,(
 qr [qo 2 (.box 2 (.sl 0)),qi 4 0]
 (.seq (qr [qi 5 0]
 (.block 0 (.loop (.seq (qr [qm 6 5,qf 7 0 2,ql 8 1 false 7,qn 9 8,qb 10 .lss 6 9]
 (qd 10 .skip (.exit 0)))
 (.seq (.block 1 (qr [qf 13 0 2,ql 14 1 false 13,qm 15 5,qa 16 3 14 15,qf 17 0 16,ql 18 1 false 17,qm 19 1,qb 20 .eql 18 19]
 (qd 20 (qr [qm 21 5,qm 4 21]
 .ret) .skip)))
 (.reg [qm 11 5,qk 12 .add 11 1,qm 5 12] []))))))
 (qr [qi 4 (-1)]
 .ret))),[.tmp 4],false⟩
def F84:bn:=⟨6,0,(
 qr [qc 2 qN]
 (qr [qo 3 (.bsl 133 2 [(.str ⟨#[]⟩),(.str ⟨#[]⟩)] 0 []),qm 4 0,qo 5 (.app 133 2 32 (.sl 3) (.sl 4)),qm 2 5]
 .ret)),[.tmp 2],false⟩
def F85:bn:=⟨6,0,(
 qr [qc 2 qN]
 (qr [qo 3 (.bsl 9 1 [(.str ⟨#[]⟩)] 0 []),qm 4 0,qo 5 (.app 9 1 16 (.sl 3) (.sl 4)),qm 2 5]
 .ret)),[.tmp 2],false⟩
def F118:bn:=⟨9,0,(
 qr [qc 2 (.bool false)]
 (qr [qm 3 0,qk 4 .geq 3 1,qm 5 4,⟨(some (5,true)),(some 6),.mv (.sl 0)⟩,⟨(some (5,true)),(some 7),.bin .leq (.sl 6) (.k (.int .i64 1000000000000))⟩,qy 8 5 7,qm 2 8]
 .ret)),[.tmp 2],false⟩
def F119:bn:=⟨24,0,(
 qr [qc 2 (.bool false)]
 (qg [qm 4 0,qn 5 4,qk 6 .gtr 5 10,qm 7 6,⟨(some (7,false)),(some 8),.mv (.sl 0)⟩,⟨(some (7,false)),(some 9),.call 166 [.sl 8] []⟩,⟨(some (7,false)),(some 10),.un .not (.sl 9)⟩,qx 11 7 10] 11 (qc 2 (.bool false))
 (.seq (qr [qi 3 0]
 (.block 0 (.loop (.seq (qr [qm 12 3,qm 13 0,qn 14 13,qb 15 .lss 12 14]
 (qd 15 .skip (.exit 0)))
 (.seq (.block 1 (qr [qm 18 0,qm 19 3,qa 20 1 18 19,ql 21 1 false 20,qt 22 121 21,qo 23 (.un .not (.sl 22))]
 (qd 23 (qr [qc 2 (.bool false)]
 .ret) .skip)))
 (.reg [qm 16 3,qk 17 .add 16 1,qm 3 17] []))))))
 (qr [qc 2 (.bool true)]
 .ret)))),[.tmp 2],false⟩
def F120:bn:=⟨47,0,(
 qr [qc 2 (.bool false)]
 (qg [qm 4 0,qn 5 4,qk 6 .gtr 5 20] 6 (qc 2 (.bool false))
 (.seq (qr [qi 3 0]
 (.block 0 (.loop (.seq (qr [qm 7 3,qm 8 0,qn 9 8,qb 10 .lss 7 9]
 (qd 10 .skip (.exit 0)))
 (.seq (.block 1 (qr [qm 13 0,qm 14 3,qa 15 2 13 14,qf 16 0 15,ql 17 1 false 16,qt 18 121 17,qo 19 (.un .not (.sl 18)),qm 20 19,⟨(some (20,false)),(some 21),.mv (.sl 3)⟩,⟨(some (20,false)),(some 22),.bin .gtr (.sl 21) (.k (.int .i64 0))⟩,⟨(some (20,false)),(some 23),.mv (.sl 22)⟩,⟨(some (23,true)),(some 24),.mv (.sl 0)⟩,⟨(some (23,true)),(some 25),.mv (.sl 3)⟩,⟨(some (23,true)),(some 26),.bin .sub (.sl 25) (.k (.int .i64 1))⟩,⟨(some (23,true)),(some 27),.iad 2 (.sl 24) (.sl 26)⟩,⟨(some (23,true)),(some 28),.fad 0 (.sl 27)⟩,⟨(some (23,true)),(some 29),.load 1 false (.sl 28)⟩,⟨(some (23,true)),(some 30),.mv (.sl 0)⟩,⟨(some (23,true)),(some 31),.mv (.sl 3)⟩,⟨(some (23,true)),(some 32),.iad 2 (.sl 30) (.sl 31)⟩,⟨(some (23,true)),(some 33),.fad 0 (.sl 32)⟩,⟨(some (23,true)),(some 34),.load 1 false (.sl 33)⟩,⟨(some (23,true)),(some 35),.bin .geq (.sl 29) (.sl 34)⟩,⟨(some (20,false)),(some 36),.pick (.sl 23) (.sl 35) (.k (.bool false))⟩,qx 37 20 36,qm 38 37,⟨(some (38,false)),(some 39),.mv (.sl 0)⟩,⟨(some (38,false)),(some 40),.mv (.sl 3)⟩,⟨(some (38,false)),(some 41),.iad 2 (.sl 39) (.sl 40)⟩,⟨(some (38,false)),(some 42),.fad 1 (.sl 41)⟩,⟨(some (38,false)),(some 43),.load 1 false (.sl 42)⟩,⟨(some (38,false)),(some 44),.call 167 [.sl 43] []⟩,⟨(some (38,false)),(some 45),.un .not (.sl 44)⟩,qx 46 38 45]
 (qd 46 (qr [qc 2 (.bool false)]
 .ret) .skip)))
 (.reg [qm 11 3,qk 12 .add 11 1,qm 3 12] []))))))
 (qr [qc 2 (.bool true)]
 .ret)))),[.tmp 2],false⟩
def F121:bn:=⟨42,0,(
 qr [qc 2 (.bool false)]
 (qg [qm 4 0,qo 5 (.slen (.sl 4)),qk 6 .lss 5 1,qm 7 6,⟨(some (7,false)),(some 8),.mv (.sl 0)⟩,⟨(some (7,false)),(some 9),.slen (.sl 8)⟩,⟨(some (7,false)),(some 10),.bin .gtr (.sl 9) (.k (.int .i64 20))⟩,qx 11 7 10,qm 12 11,⟨(some (12,false)),(some 13),.mv (.sl 0)⟩,⟨(some (12,false)),(some 14),.sidx (.sl 13) (.k (.int .i64 0))⟩,⟨(some (12,false)),(some 15),.call 168 [.sl 14] []⟩,⟨(some (12,false)),(some 16),.un .not (.sl 15)⟩,qx 17 12 16] 17 (qc 2 (.bool false))
 (.seq (qr [qi 3 1]
 (.block 0 (.loop (.seq (qr [qm 18 3,qm 19 0,qo 20 (.slen (.sl 19)),qb 21 .lss 18 20]
 (qd 21 .skip (.exit 0)))
 (.seq (.block 1 (qr [qm 24 0,qm 25 3,qo 26 (.sidx (.sl 24) (.sl 25)),qt 27 168 26,qo 28 (.un .not (.sl 27)),qm 29 28,⟨(some (29,true)),(some 30),.mv (.sl 0)⟩,⟨(some (29,true)),(some 31),.mv (.sl 3)⟩,⟨(some (29,true)),(some 32),.sidx (.sl 30) (.sl 31)⟩,⟨(some (29,true)),(some 33),.call 169 [.sl 32] []⟩,⟨(some (29,true)),(some 34),.un .not (.sl 33)⟩,qy 35 29 34,qm 36 35,⟨(some (36,true)),(some 37),.mv (.sl 0)⟩,⟨(some (36,true)),(some 38),.mv (.sl 3)⟩,⟨(some (36,true)),(some 39),.sidx (.sl 37) (.sl 38)⟩,⟨(some (36,true)),(some 40),.bin .neq (.sl 39) (.k (.int .u8 95))⟩,qy 41 36 40]
 (qd 41 (qr [qc 2 (.bool false)]
 .ret) .skip)))
 (.reg [qm 22 3,qk 23 .add 22 1,qm 3 23] []))))))
 (qr [qc 2 (.bool true)]
 .ret)))),[.tmp 2],false⟩
def F166:bn:=⟨20,0,(
 qr [qc 2 (.bool false)]
 (.seq (qr [qi 3 1]
 (.block 0 (.loop (.seq (qr [qm 4 3,qm 5 0,qn 6 5,qb 7 .lss 4 6]
 (qd 7 .skip (.exit 0)))
 (.seq (.block 1 (qr [qm 10 0,qm 11 3,qk 12 .sub 11 1,qa 13 1 10 12,ql 14 1 false 13,qm 15 0,qm 16 3,qa 17 1 15 16,ql 18 1 false 17,qb 19 .geq 14 18]
 (qd 19 (qr [qc 2 (.bool false)]
 .ret) .skip)))
 (.reg [qm 8 3,qk 9 .add 8 1,qm 3 9] []))))))
 (qr [qc 2 (.bool true)]
 .ret))),[.tmp 2],false⟩
def F167:bn:=⟨13,0,(
 qr [qc 2 (.bool false)]
 (qr [qm 4 0,qt 5 186 4,qo 3 (.alloc [(.int .i64 0),(.int .i64 0),(.int .i64 0),(.str ⟨#[]⟩),qN,qN]),qs 6 3 5]
 (qr [qf 6 0 3,ql 7 1 false 6,qk 8 .neq 7 0,qm 9 8,⟨(some (9,true)),(some 10),.load 6 true (.sl 3)⟩,⟨(some (9,true)),(some 11),.call 191 [.sl 10] []⟩,qy 12 9 11,qm 2 12]
 .ret))),[.tmp 2],false⟩
def F168:bn:=⟨17,0,(
 qr [qc 2 (.bool false)]
 (qr [qm 3 0,qo 4 (.bin .geq (.sl 3) (.k (.int .u8 97))),qm 5 4,⟨(some (5,true)),(some 6),.mv (.sl 0)⟩,⟨(some (5,true)),(some 7),.bin .leq (.sl 6) (.k (.int .u8 122))⟩,qy 8 5 7,qm 9 8,⟨(some (9,false)),(some 10),.mv (.sl 0)⟩,⟨(some (9,false)),(some 11),.bin .geq (.sl 10) (.k (.int .u8 65))⟩,⟨(some (9,false)),(some 12),.mv (.sl 11)⟩,⟨(some (12,true)),(some 13),.mv (.sl 0)⟩,⟨(some (12,true)),(some 14),.bin .leq (.sl 13) (.k (.int .u8 90))⟩,⟨(some (9,false)),(some 15),.pick (.sl 12) (.sl 14) (.k (.bool false))⟩,qx 16 9 15,qm 2 16]
 .ret)),[.tmp 2],false⟩
def F169:bn:=⟨9,0,(
 qr [qc 2 (.bool false)]
 (qr [qm 3 0,qo 4 (.bin .geq (.sl 3) (.k (.int .u8 48))),qm 5 4,⟨(some (5,true)),(some 6),.mv (.sl 0)⟩,⟨(some (5,true)),(some 7),.bin .leq (.sl 6) (.k (.int .u8 57))⟩,qy 8 5 7,qm 2 8]
 .ret)),[.tmp 2],false⟩
def F186:bn:=⟨29,0,(
 qr [qo 2 (.alloc [(.int .i64 0),(.int .i64 0),(.int .i64 0),(.str ⟨#[]⟩),qN,qN])]
 (.seq (qr [qm 5 0,qo 6 (.slen (.sl 5)),qk 7 .gtr 6 2000]
 (qd 7 (qr [qo 8 (.build [(.int .i64 0),(.int .i64 0),(.int .i64 0),(.str ⟨#[]⟩),qN,qN] [(0,1,(.k (.int .i64 (-1))))]),qs 6 2 8]
 .ret) .skip))
 (qr [qm 9 0,qo 10 (.build [(.str ⟨#[]⟩),(.int .i64 0),(.bool false)] [(0,1,(.sl 9))]),qo 11 (.box 3 (.sl 10)),qm 3 11]
 (qr [qm 12 3,qo 13 (.call 200 [(.sl 12),(.k (.int .i64 0))] []),qo 4 (.alloc [(.int .i64 0),(.int .i64 0),(.int .i64 0),(.str ⟨#[]⟩),qN,qN]),qs 6 4 13]
 (.seq (qr [qm 14 3,qo 15 (.nck (.sl 14)),qf 16 2 15,ql 17 1 false 16,qm 18 17,⟨(some (18,false)),(some 19),.mv (.sl 3)⟩,⟨(some (18,false)),(some 20),.nck (.sl 19)⟩,⟨(some (18,false)),(some 21),.fad 1 (.sl 20)⟩,⟨(some (18,false)),(some 22),.load 1 false (.sl 21)⟩,⟨(some (18,false)),(some 23),.mv (.sl 0)⟩,⟨(some (18,false)),(some 24),.slen (.sl 23)⟩,⟨(some (18,false)),(some 25),.bin .neq (.sl 22) (.sl 24)⟩,qx 26 18 25]
 (qd 26 (qr [qo 27 (.build [(.int .i64 0),(.int .i64 0),(.int .i64 0),(.str ⟨#[]⟩),qN,qN] [(0,1,(.k (.int .i64 (-1))))]),qs 6 2 27]
 .ret) .skip))
 (qr [ql 28 6 true 4,qs 6 2 28]
 .ret)))))),[.cell 2 6 true],false⟩
def F191:bn:=⟨35,0,(
 qr [qo 1 (.box 6 (.sl 0)),qc 2 (.bool false)]
 (qg [qf 4 0 1,ql 5 1 false 4,qk 6 .lss 5 0,qm 7 6,⟨(some (7,false)),(some 8),.fad 0 (.sl 1)⟩,⟨(some (7,false)),(some 9),.load 1 false (.sl 8)⟩,⟨(some (7,false)),(some 10),.bin .geq (.sl 9) (.k (.int .i64 8))⟩,qx 11 7 10] 11 (qc 2 (.bool false))
 (.seq (qr [qi 3 0]
 (.block 0 (.loop (.seq (qr [qm 12 3,qf 13 4 1,ql 14 1 false 13,qn 15 14,qb 16 .lss 12 15]
 (qd 16 .skip (.exit 0)))
 (.seq (.block 1 (qr [qf 19 4 1,ql 20 1 false 19,qm 21 3,qa 22 6 20 21,qf 23 0 22,ql 24 1 false 23,qk 25 .neq 24 0,qm 26 25,⟨(some (26,true)),(some 27),.fad 4 (.sl 1)⟩,⟨(some (26,true)),(some 28),.load 1 false (.sl 27)⟩,⟨(some (26,true)),(some 29),.mv (.sl 3)⟩,⟨(some (26,true)),(some 30),.iad 6 (.sl 28) (.sl 29)⟩,⟨(some (26,true)),(some 31),.load 6 true (.sl 30)⟩,⟨(some (26,true)),(some 32),.call 191 [.sl 31] []⟩,⟨(some (26,true)),(some 33),.un .not (.sl 32)⟩,qy 34 26 33]
 (qd 34 (qr [qc 2 (.bool false)]
 .ret) .skip)))
 (.reg [qm 17 3,qk 18 .add 17 1,qm 3 18] []))))))
 (qr [qc 2 (.bool true)]
 .ret)))),[.tmp 2],false⟩
def F200:bn:=⟨135,1,(
 qr [qo 4 (.alloc [(.int .i64 0),(.int .i64 0),(.int .i64 0),(.str ⟨#[]⟩),qN,qN])]
 (.seq (qr [qm 7 0,qo 8 (.nck (.sl 7)),qf 9 2 8,ql 10 1 false 9,qm 11 10,⟨(some (11,false)),(some 12),.mv (.sl 0)⟩,⟨(some (11,false)),(some 13),.nck (.sl 12)⟩,⟨(some (11,false)),(some 14),.fad 1 (.sl 13)⟩,⟨(some (11,false)),(some 15),.load 1 false (.sl 14)⟩,⟨(some (11,false)),(some 16),.mv (.sl 0)⟩,⟨(some (11,false)),(some 17),.nck (.sl 16)⟩,⟨(some (11,false)),(some 18),.fad 0 (.sl 17)⟩,⟨(some (11,false)),(some 19),.load 1 false (.sl 18)⟩,⟨(some (11,false)),(some 20),.slen (.sl 19)⟩,⟨(some (11,false)),(some 21),.bin .geq (.sl 15) (.sl 20)⟩,qx 22 11 21]
 (qd 22 (qr [qm 23 0,qt 24 209 23,qs 6 4 24]
 .ret) .skip))
 (.seq (.block 0 (qr [qm 26 0,qo 27 (.call 210 [(.sl 26),(.k (.str ⟨#[110,117,108,108]⟩))] []),qm 25 27]
 (qd 25 (qr [qo 28 (.build [(.int .i64 0),(.int .i64 0),(.int .i64 0),(.str ⟨#[]⟩),qN,qN] []),qs 6 4 28]
 .ret) (qr [qm 30 0,qo 31 (.call 210 [(.sl 30),(.k (.str ⟨#[116,114,117,101]⟩))] []),qm 29 31]
 (qd 29 (qr [qo 32 (.build [(.int .i64 0),(.int .i64 0),(.int .i64 0),(.str ⟨#[]⟩),qN,qN] [(0,1,(.k (.int .i64 1))),(1,1,(.k (.int .i64 1)))]),qs 6 4 32]
 .ret) (qr [qm 34 0,qo 35 (.call 210 [(.sl 34),(.k (.str ⟨#[102,97,108,115,101]⟩))] []),qm 33 35]
 (qd 33 (qr [qo 36 (.build [(.int .i64 0),(.int .i64 0),(.int .i64 0),(.str ⟨#[]⟩),qN,qN] [(0,1,(.k (.int .i64 1)))]),qs 6 4 36]
 .ret) (qr [qm 38 0,qo 39 (.call 210 [(.sl 38),(.k (.str ⟨#[34]⟩))] []),qm 37 39]
 (qd 37 (qr [qm 40 0,qt 41 211 40,qo 42 (.build [(.int .i64 0),(.int .i64 0),(.int .i64 0),(.str ⟨#[]⟩),qN,qN] [(0,1,(.k (.int .i64 3))),(3,1,(.sl 41))]),qs 6 4 42]
 .ret) (qr [qm 44 0,qo 45 (.call 210 [(.sl 44),(.k (.str ⟨#[64]⟩))] []),qm 43 45]
 (qd 43 (qr [qm 46 0,qt 47 212 46,qs 6 4 47]
 .ret) (qr [qm 49 0,qo 50 (.call 210 [(.sl 49),(.k (.str ⟨#[40]⟩))] []),qm 48 50]
 (qd 48 (qr [qm 51 0,qt 52 213 51,qm 5 52]
 (qr [qm 53 0,qm 54 0,qo 55 (.nck (.sl 54)),qf 56 2 55,ql 57 1 false 56,qm 58 57,⟨(some (58,false)),(some 59),.mv (.sl 0)⟩,⟨(some (58,false)),(some 60),.call 210 [(.sl 59),(.k (.str ⟨#[32]⟩))] []⟩,⟨(some (58,false)),(some 61),.un .not (.sl 60)⟩,qx 62 58 61,qo 63 (.nck (.sl 53)),qf 64 2 63,qs 1 64 62]
 (qr [qm 65 0,qt 66 213 65,qm 6 66]
 (.seq (qr [qm 67 0,qo 68 (.nck (.sl 67)),qf 69 2 68,ql 70 1 false 69,qm 71 70,⟨(some (71,false)),(some 72),.mv (.sl 0)⟩,⟨(some (71,false)),(some 73),.call 210 [(.sl 72),(.k (.str ⟨#[41]⟩))] []⟩,⟨(some (71,false)),(some 74),.un .not (.sl 73)⟩,qx 75 71 74,qm 76 75,⟨(some (76,false)),(some 77),.mv (.sl 5)⟩,⟨(some (76,false)),(some 78),.bin .lss (.sl 77) (.k (.int .i64 (-1000000)))⟩,qx 79 76 78,qm 80 79,⟨(some (80,false)),(some 81),.mv (.sl 5)⟩,⟨(some (80,false)),(some 82),.bin .gtr (.sl 81) (.k (.int .i64 1000000))⟩,qx 83 80 82,qm 84 83,⟨(some (84,false)),(some 85),.mv (.sl 6)⟩,⟨(some (84,false)),(some 86),.bin .lss (.sl 85) (.k (.int .i64 (-1000000)))⟩,qx 87 84 86,qm 88 87,⟨(some (88,false)),(some 89),.mv (.sl 6)⟩,⟨(some (88,false)),(some 90),.bin .gtr (.sl 89) (.k (.int .i64 1000000))⟩,qx 91 88 90]
 (qd 91 (qr [qm 92 0,qt 93 209 92,qs 6 4 93]
 .ret) .skip))
 (qr [qm 94 5,qm 95 6,qo 96 (.build [(.int .i64 0),(.int .i64 0),(.int .i64 0),(.str ⟨#[]⟩),qN,qN] [(0,1,(.k (.int .i64 5))),(1,1,(.sl 94)),(2,1,(.sl 95))]),qs 6 4 96]
 .ret))))) (qr [qm 98 0,qo 99 (.call 210 [(.sl 98),(.k (.str ⟨#[110]⟩))] []),qm 97 99]
 (qd 97 (qr [qm 100 0,qo 101 (.call 214 [(.sl 100),(.k (.int .i64 8))] []),qs 6 4 101]
 .ret) (qr [qm 103 0,qo 104 (.call 210 [(.sl 103),(.k (.str ⟨#[101]⟩))] []),qm 102 104]
 (qd 102 (qr [qm 105 0,qo 106 (.call 214 [(.sl 105),(.k (.int .i64 9))] []),qs 6 4 106]
 .ret) (qr [qm 108 0,qo 109 (.call 210 [(.sl 108),(.k (.str ⟨#[60]⟩))] []),qm 107 109]
 (qd 107 (qr [qm 110 0,qt 111 215 110,qs 6 4 111]
 .ret) (qr [qm 113 1,qk 114 .lss 113 5,qm 115 114,⟨(some (115,true)),(some 116),.mv (.sl 0)⟩,⟨(some (115,true)),(some 117),.call 210 [(.sl 116),(.k (.str ⟨#[91]⟩))] []⟩,qy 118 115 117,qm 112 118]
 (qd 112 (qr [qm 119 0,qm 120 1,qu 121 216 119 120,qs 6 4 121]
 .ret) (qr [qm 123 1,qk 124 .lss 123 5,qm 125 124,⟨(some (125,true)),(some 126),.mv (.sl 0)⟩,⟨(some (125,true)),(some 127),.call 210 [(.sl 126),(.k (.str ⟨#[123]⟩))] []⟩,qy 128 125 127,qm 122 128]
 (qd 122 (qr [qm 129 0,qm 130 1,qu 131 217 129 130,qs 6 4 131]
 .ret) .skip)))))))))))))))))))))))
 (qr [qm 132 0,qt 133 213 132,qo 134 (.build [(.int .i64 0),(.int .i64 0),(.int .i64 0),(.str ⟨#[]⟩),qN,qN] [(0,1,(.k (.int .i64 2))),(1,1,(.sl 133))]),qs 6 4 134]
 .ret)))),[.cell 4 6 true],false⟩
def F209:bn:=⟨7,1,(
 qr [qo 2 (.alloc [(.int .i64 0),(.int .i64 0),(.int .i64 0),(.str ⟨#[]⟩),qN,qN])]
 (qr [qm 3 0,qo 4 (.nck (.sl 3)),qf 5 2 4,qe (.store 1 (.sl 5) (.k (.bool true)))]
 (qr [qo 6 (.build [(.int .i64 0),(.int .i64 0),(.int .i64 0),(.str ⟨#[]⟩),qN,qN] [(0,1,(.k (.int .i64 (-1))))]),qs 6 2 6]
 .ret))),[.cell 2 6 true],false⟩
def F210:bn:=⟨33,1,(
 qr [qc 4 (.bool false)]
 (.seq (qr [qm 5 0,qo 6 (.nck (.sl 5)),qf 7 2 6,ql 8 1 false 7,qo 9 (.un .not (.sl 8)),qm 10 9,⟨(some (10,true)),(some 11),.mv (.sl 0)⟩,⟨(some (10,true)),(some 12),.nck (.sl 11)⟩,⟨(some (10,true)),(some 13),.fad 0 (.sl 12)⟩,⟨(some (10,true)),(some 14),.load 1 false (.sl 13)⟩,⟨(some (10,true)),(some 15),.mv (.sl 0)⟩,⟨(some (10,true)),(some 16),.nck (.sl 15)⟩,⟨(some (10,true)),(some 17),.fad 1 (.sl 16)⟩,⟨(some (10,true)),(some 18),.load 1 false (.sl 17)⟩,⟨(some (10,true)),(some 19),.ssl (.sl 14) (some (.sl 18)) none⟩,⟨(some (10,true)),(some 20),.mv (.sl 1)⟩,⟨(some (10,true)),(some 21),.call 231 [(.sl 19),(.sl 20)] []⟩,qy 22 10 21]
 (qd 22 (qr [qm 23 0,qm 24 0,qo 25 (.nck (.sl 24)),qf 26 1 25,ql 27 1 false 26,qm 28 1,qo 29 (.slen (.sl 28)),qb 30 .add 27 29,qo 31 (.nck (.sl 23)),qf 32 1 31,qs 1 32 30]
 (qr [qc 4 (.bool true)]
 .ret)) .skip))
 (qr [qc 4 (.bool false)]
 .ret))),[.tmp 4],false⟩
def F211:bn:=⟨122,1,(
 qr [qc 2 (.str ⟨#[]⟩)]
 (qr [qo 5 (.bsl 5 1 [(.int .u8 0)] 0 []),qm 3 5]
 (.seq (.block 0 (.loop (.seq (qr [qm 6 0,qo 7 (.nck (.sl 6)),qf 8 1 7,ql 9 1 false 8,qm 10 0,qo 11 (.nck (.sl 10)),qf 12 0 11,ql 13 1 false 12,qo 14 (.slen (.sl 13)),qb 15 .lss 9 14]
 (qd 15 .skip (.exit 0)))
 (.block 1 (qr [qm 16 0,qo 17 (.nck (.sl 16)),qf 18 0 17,ql 19 1 false 18,qm 20 0,qo 21 (.nck (.sl 20)),qf 22 1 21,ql 23 1 false 22,qo 24 (.sidx (.sl 19) (.sl 23)),qm 4 24]
 (qr [qm 25 0,qm 26 0,qo 27 (.nck (.sl 26)),qf 28 1 27,ql 29 1 false 28,qk 30 .add 29 1,qo 31 (.nck (.sl 25)),qf 32 1 31,qs 1 32 30]
 (.seq (.block 2 (qr [qm 34 4,qo 35 (.bin .eql (.sl 34) (.k (.int .u8 34))),qm 33 35]
 (qd 33 (qr [qm 36 3,qo 37 (.b2s (.sl 36)),qm 2 37]
 .ret) (qr [qm 39 4,qo 40 (.bin .lss (.sl 39) (.k (.int .u8 32))),qm 38 40]
 (qd 38 (qr [qm 41 0,qo 42 (.nck (.sl 41)),qf 43 2 42,qe (.store 1 (.sl 43) (.k (.bool true)))]
 (qr [qc 2 (.str ⟨#[]⟩)]
 .ret)) (qr [qm 45 4,qo 46 (.bin .eql (.sl 45) (.k (.int .u8 92))),qm 44 46]
 (qd 44 (.seq (qr [qm 47 0,qo 48 (.nck (.sl 47)),qf 49 1 48,ql 50 1 false 49,qm 51 0,qo 52 (.nck (.sl 51)),qf 53 0 52,ql 54 1 false 53,qo 55 (.slen (.sl 54)),qb 56 .geq 50 55,qm 57 56,⟨(some (57,false)),(some 58),.mv (.sl 0)⟩,⟨(some (57,false)),(some 59),.nck (.sl 58)⟩,⟨(some (57,false)),(some 60),.fad 0 (.sl 59)⟩,⟨(some (57,false)),(some 61),.load 1 false (.sl 60)⟩,⟨(some (57,false)),(some 62),.mv (.sl 0)⟩,⟨(some (57,false)),(some 63),.nck (.sl 62)⟩,⟨(some (57,false)),(some 64),.fad 1 (.sl 63)⟩,⟨(some (57,false)),(some 65),.load 1 false (.sl 64)⟩,⟨(some (57,false)),(some 66),.sidx (.sl 61) (.sl 65)⟩,⟨(some (57,false)),(some 67),.bin .neq (.sl 66) (.k (.int .u8 34))⟩,⟨(some (57,false)),(some 68),.mv (.sl 67)⟩,⟨(some (68,true)),(some 69),.mv (.sl 0)⟩,⟨(some (68,true)),(some 70),.nck (.sl 69)⟩,⟨(some (68,true)),(some 71),.fad 0 (.sl 70)⟩,⟨(some (68,true)),(some 72),.load 1 false (.sl 71)⟩,⟨(some (68,true)),(some 73),.mv (.sl 0)⟩,⟨(some (68,true)),(some 74),.nck (.sl 73)⟩,⟨(some (68,true)),(some 75),.fad 1 (.sl 74)⟩,⟨(some (68,true)),(some 76),.load 1 false (.sl 75)⟩,⟨(some (68,true)),(some 77),.sidx (.sl 72) (.sl 76)⟩,⟨(some (68,true)),(some 78),.bin .neq (.sl 77) (.k (.int .u8 92))⟩,⟨(some (57,false)),(some 79),.pick (.sl 68) (.sl 78) (.k (.bool false))⟩,⟨(some (57,false)),(some 80),.mv (.sl 79)⟩,⟨(some (80,true)),(some 81),.mv (.sl 0)⟩,⟨(some (80,true)),(some 82),.nck (.sl 81)⟩,⟨(some (80,true)),(some 83),.fad 0 (.sl 82)⟩,⟨(some (80,true)),(some 84),.load 1 false (.sl 83)⟩,⟨(some (80,true)),(some 85),.mv (.sl 0)⟩,⟨(some (80,true)),(some 86),.nck (.sl 85)⟩,⟨(some (80,true)),(some 87),.fad 1 (.sl 86)⟩,⟨(some (80,true)),(some 88),.load 1 false (.sl 87)⟩,⟨(some (80,true)),(some 89),.sidx (.sl 84) (.sl 88)⟩,⟨(some (80,true)),(some 90),.bin .neq (.sl 89) (.k (.int .u8 110))⟩,⟨(some (57,false)),(some 91),.pick (.sl 80) (.sl 90) (.k (.bool false))⟩,qx 92 57 91]
 (qd 92 (qr [qm 93 0,qo 94 (.nck (.sl 93)),qf 95 2 94,qe (.store 1 (.sl 95) (.k (.bool true)))]
 (qr [qc 2 (.str ⟨#[]⟩)]
 .ret)) .skip))
 (qr [qm 96 0,qo 97 (.nck (.sl 96)),qf 98 0 97,ql 99 1 false 98,qm 100 0,qo 101 (.nck (.sl 100)),qf 102 1 101,ql 103 1 false 102,qo 104 (.sidx (.sl 99) (.sl 103)),qm 4 104]
 (.seq (qr [qm 105 4,qo 106 (.bin .eql (.sl 105) (.k (.int .u8 110)))]
 (qd 106 (.reg [qc 4 (.int .u8 10)] []) .skip))
 (.reg [qm 107 0,qm 108 0,qo 109 (.nck (.sl 108)),qf 110 1 109,ql 111 1 false 110,qk 112 .add 111 1,qo 113 (.nck (.sl 107)),qf 114 1 113,qs 1 114 112] [])))) .skip)))))))
 (.reg [qm 115 3,qm 116 4,qo 117 (.bsl 5 1 [(.int .u8 0)] 1 [(0,1,(.sl 116))]),qo 118 (.app 5 1 1 (.sl 115) (.sl 117)),qm 3 118] []))))))))
 (qr [qm 119 0,qo 120 (.nck (.sl 119)),qf 121 2 120,qe (.store 1 (.sl 121) (.k (.bool true)))]
 (qr [qc 2 (.str ⟨#[]⟩)]
 .ret))))),[.tmp 2],false⟩
def F212:bn:=⟨84,1,(
 qr [qo 2 (.alloc [(.int .i64 0),(.int .i64 0),(.int .i64 0),(.str ⟨#[]⟩),qN,qN])]
 (qr [qm 8 0,qo 9 (.call 232 [(.sl 8),(.k (.int .i64 4))] []),qm 3 9]
 (qr [qm 10 0,qm 11 0,qo 12 (.nck (.sl 11)),qf 13 2 12,ql 14 1 false 13,qm 15 14,⟨(some (15,false)),(some 16),.mv (.sl 0)⟩,⟨(some (15,false)),(some 17),.call 210 [(.sl 16),(.k (.str ⟨#[45]⟩))] []⟩,⟨(some (15,false)),(some 18),.un .not (.sl 17)⟩,qx 19 15 18,qo 20 (.nck (.sl 10)),qf 21 2 20,qs 1 21 19]
 (qr [qm 22 0,qo 23 (.call 232 [(.sl 22),(.k (.int .i64 2))] []),qm 4 23]
 (qr [qm 24 0,qm 25 0,qo 26 (.nck (.sl 25)),qf 27 2 26,ql 28 1 false 27,qm 29 28,⟨(some (29,false)),(some 30),.mv (.sl 0)⟩,⟨(some (29,false)),(some 31),.call 210 [(.sl 30),(.k (.str ⟨#[45]⟩))] []⟩,⟨(some (29,false)),(some 32),.un .not (.sl 31)⟩,qx 33 29 32,qo 34 (.nck (.sl 24)),qf 35 2 34,qs 1 35 33]
 (qr [qm 36 0,qo 37 (.call 232 [(.sl 36),(.k (.int .i64 2))] []),qm 5 37]
 (.seq (qr [qm 38 0,qo 39 (.nck (.sl 38)),qf 40 2 39,ql 41 1 false 40,qm 42 41,⟨(some (42,false)),(some 43),.mv (.sl 3)⟩,⟨(some (42,false)),(some 44),.bin .lss (.sl 43) (.k (.int .i64 1))⟩,qx 45 42 44,qm 46 45,⟨(some (46,false)),(some 47),.mv (.sl 4)⟩,⟨(some (46,false)),(some 48),.bin .lss (.sl 47) (.k (.int .i64 1))⟩,qx 49 46 48,qm 50 49,⟨(some (50,false)),(some 51),.mv (.sl 4)⟩,⟨(some (50,false)),(some 52),.bin .gtr (.sl 51) (.k (.int .i64 12))⟩,qx 53 50 52,qm 54 53,⟨(some (54,false)),(some 55),.mv (.sl 5)⟩,⟨(some (54,false)),(some 56),.bin .lss (.sl 55) (.k (.int .i64 1))⟩,qx 57 54 56,qm 58 57,⟨(some (58,false)),(some 59),.mv (.sl 5)⟩,⟨(some (58,false)),(some 60),.mv (.sl 3)⟩,⟨(some (58,false)),(some 61),.mv (.sl 4)⟩,⟨(some (58,false)),(some 62),.call 233 [(.sl 60),(.sl 61)] []⟩,⟨(some (58,false)),(some 63),.bin .gtr (.sl 59) (.sl 62)⟩,qx 64 58 63]
 (qd 64 (qr [qm 65 0,qt 66 209 65,qs 6 2 66]
 .ret) .skip))
 (qr [qm 67 3,qt 68 234 67,qm 69 5,qb 70 .add 68 69,qk 71 .sub 70 1,qm 6 71]
 (.seq (qr [qi 7 1]
 (.block 0 (.loop (.seq (qr [qm 72 7,qm 73 4,qb 74 .lss 72 73]
 (qd 74 .skip (.exit 0)))
 (.seq (.block 1 (.reg [qm 77 6,qm 78 3,qm 79 7,qu 80 233 78 79,qb 81 .add 77 80,qm 6 81] []))
 (.reg [qm 75 7,qk 76 .add 75 1,qm 7 76] []))))))
 (qr [qm 82 6,qo 83 (.build [(.int .i64 0),(.int .i64 0),(.int .i64 0),(.str ⟨#[]⟩),qN,qN] [(0,1,(.k (.int .i64 4))),(1,1,(.sl 82))]),qs 6 2 83]
 .ret)))))))))),[.cell 2 6 true],false⟩
def F213:bn:=⟨134,1,(
 qr [qi 2 0]
 (qr [qm 5 0,qo 6 (.nck (.sl 5)),qf 7 1 6,ql 8 1 false 7,qm 3 8]
 (.seq (qr [qm 9 0,qo 10 (.nck (.sl 9)),qf 11 1 10,ql 12 1 false 11,qm 13 0,qo 14 (.nck (.sl 13)),qf 15 0 14,ql 16 1 false 15,qo 17 (.slen (.sl 16)),qb 18 .lss 12 17,qm 19 18,⟨(some (19,true)),(some 20),.mv (.sl 0)⟩,⟨(some (19,true)),(some 21),.nck (.sl 20)⟩,⟨(some (19,true)),(some 22),.fad 0 (.sl 21)⟩,⟨(some (19,true)),(some 23),.load 1 false (.sl 22)⟩,⟨(some (19,true)),(some 24),.mv (.sl 0)⟩,⟨(some (19,true)),(some 25),.nck (.sl 24)⟩,⟨(some (19,true)),(some 26),.fad 1 (.sl 25)⟩,⟨(some (19,true)),(some 27),.load 1 false (.sl 26)⟩,⟨(some (19,true)),(some 28),.sidx (.sl 23) (.sl 27)⟩,⟨(some (19,true)),(some 29),.bin .eql (.sl 28) (.k (.int .u8 45))⟩,qy 30 19 29]
 (qd 30 (.reg [qm 31 0,qm 32 0,qo 33 (.nck (.sl 32)),qf 34 1 33,ql 35 1 false 34,qk 36 .add 35 1,qo 37 (.nck (.sl 31)),qf 38 1 37,qs 1 38 36] []) .skip))
 (qr [qi 4 0]
 (.seq (.block 0 (.loop (.seq (qr [qm 39 0,qo 40 (.nck (.sl 39)),qf 41 1 40,ql 42 1 false 41,qm 43 0,qo 44 (.nck (.sl 43)),qf 45 0 44,ql 46 1 false 45,qo 47 (.slen (.sl 46)),qb 48 .lss 42 47,qm 49 48,⟨(some (49,true)),(some 50),.mv (.sl 0)⟩,⟨(some (49,true)),(some 51),.nck (.sl 50)⟩,⟨(some (49,true)),(some 52),.fad 0 (.sl 51)⟩,⟨(some (49,true)),(some 53),.load 1 false (.sl 52)⟩,⟨(some (49,true)),(some 54),.mv (.sl 0)⟩,⟨(some (49,true)),(some 55),.nck (.sl 54)⟩,⟨(some (49,true)),(some 56),.fad 1 (.sl 55)⟩,⟨(some (49,true)),(some 57),.load 1 false (.sl 56)⟩,⟨(some (49,true)),(some 58),.sidx (.sl 53) (.sl 57)⟩,⟨(some (49,true)),(some 59),.call 169 [.sl 58] []⟩,qy 60 49 59]
 (qd 60 .skip (.exit 0)))
 (.block 1 (qr [qm 61 4,qk 62 .mul 61 10,qm 63 0,qo 64 (.nck (.sl 63)),qf 65 0 64,ql 66 1 false 65,qm 67 0,qo 68 (.nck (.sl 67)),qf 69 1 68,ql 70 1 false 69,qo 71 (.sidx (.sl 66) (.sl 70)),qo 72 (.bin .sub (.sl 71) (.k (.int .u8 48))),qo 73 (.toInt .i64 (.sl 72)),qb 74 .add 62 73,qm 4 74]
 (.reg [qm 75 0,qm 76 0,qo 77 (.nck (.sl 76)),qf 78 1 77,ql 79 1 false 78,qk 80 .add 79 1,qo 81 (.nck (.sl 75)),qf 82 1 81,qs 1 82 80] []))))))
 (.seq (qr [qm 83 3,qm 84 0,qo 85 (.nck (.sl 84)),qf 86 1 85,ql 87 1 false 86,qb 88 .lss 83 87,qm 89 88,⟨(some (89,true)),(some 90),.mv (.sl 0)⟩,⟨(some (89,true)),(some 91),.nck (.sl 90)⟩,⟨(some (89,true)),(some 92),.fad 0 (.sl 91)⟩,⟨(some (89,true)),(some 93),.load 1 false (.sl 92)⟩,⟨(some (89,true)),(some 94),.mv (.sl 3)⟩,⟨(some (89,true)),(some 95),.sidx (.sl 93) (.sl 94)⟩,⟨(some (89,true)),(some 96),.bin .eql (.sl 95) (.k (.int .u8 45))⟩,qy 97 89 96]
 (qd 97 (.reg [qm 98 4,qo 99 (.un .neg (.sl 98)),qm 4 99] []) .skip))
 (.seq (.seq (.reg [qm 100 3,qm 101 0,qo 102 (.nck (.sl 101)),qf 103 1 102,ql 104 1 false 103,qb 105 .eql 100 104,qm 106 105,⟨(some (106,false)),(some 107),.mv (.sl 0)⟩,⟨(some (106,false)),(some 108),.nck (.sl 107)⟩,⟨(some (106,false)),(some 109),.fad 1 (.sl 108)⟩,⟨(some (106,false)),(some 110),.load 1 false (.sl 109)⟩,⟨(some (106,false)),(some 111),.mv (.sl 3)⟩,⟨(some (106,false)),(some 112),.bin .sub (.sl 110) (.sl 111)⟩,⟨(some (106,false)),(some 113),.bin .gtr (.sl 112) (.k (.int .i64 20))⟩,qx 114 106 113,qm 115 114,⟨(some (115,false)),(some 116),.mv (.sl 4)⟩,⟨(some (115,false)),(some 117),.call 98 [.sl 116] []⟩,⟨(some (115,false)),(some 118),.mv (.sl 0)⟩,⟨(some (115,false)),(some 119),.nck (.sl 118)⟩,⟨(some (115,false)),(some 120),.fad 0 (.sl 119)⟩,⟨(some (115,false)),(some 121),.load 1 false (.sl 120)⟩,⟨(some (115,false)),(some 122),.mv (.sl 3)⟩,⟨(some (115,false)),(some 123),.mv (.sl 0)⟩,⟨(some (115,false)),(some 124),.nck (.sl 123)⟩,⟨(some (115,false)),(some 125),.fad 1 (.sl 124)⟩,⟨(some (115,false)),(some 126),.load 1 false (.sl 125)⟩,⟨(some (115,false)),(some 127),.ssl (.sl 121) (some (.sl 122)) (some (.sl 126))⟩,⟨(some (115,false)),(some 128),.bin .neq (.sl 117) (.sl 127)⟩,qx 129 115 128] [(17,21),(17,26)])
 (qd 129 (.reg [qm 130 0,qo 131 (.nck (.sl 130)),qf 132 2 131,qe (.store 1 (.sl 132) (.k (.bool true)))] []) .skip))
 (qr [qm 133 4,qm 2 133]
 .ret)))))))),[.tmp 2],false⟩
def F214:bn:=⟨20,1,(
 qr [qo 4 (.alloc [(.int .i64 0),(.int .i64 0),(.int .i64 0),(.str ⟨#[]⟩),qN,qN])]
 (qr [qm 6 0,qt 7 213 6,qm 5 7]
 (.seq (qr [qm 8 5,qk 9 .lss 8 1,qm 10 9,⟨(some (10,false)),(some 11),.mv (.sl 5)⟩,⟨(some (10,false)),(some 12),.bin .gtr (.sl 11) (.k (.int .i64 1000000000000))⟩,qx 13 10 12]
 (qd 13 (.reg [qm 14 0,qo 15 (.nck (.sl 14)),qf 16 2 15,qe (.store 1 (.sl 16) (.k (.bool true)))] []) .skip))
 (qr [qm 17 1,qm 18 5,qo 19 (.build [(.int .i64 0),(.int .i64 0),(.int .i64 0),(.str ⟨#[]⟩),qN,qN] [(0,1,(.sl 17)),(1,1,(.sl 18))]),qs 6 4 19]
 .ret)))),[.cell 4 6 true],false⟩
def F215:bn:=⟨44,1,(
 qr [qo 2 (.alloc [(.int .i64 0),(.int .i64 0),(.int .i64 0),(.str ⟨#[]⟩),qN,qN])]
 (qr [qo 6 (.build [(.int .i64 0),(.int .i64 0),(.int .i64 0),(.str ⟨#[]⟩),qN,qN] [(0,1,(.k (.int .i64 10)))]),qo 3 (.alloc [(.int .i64 0),(.int .i64 0),(.int .i64 0),(.str ⟨#[]⟩),qN,qN]),qs 6 3 6]
 (.seq (.block 0 (.loop (.seq (qr [qm 7 0,qo 8 (.nck (.sl 7)),qf 9 2 8,ql 10 1 false 9,qo 11 (.un .not (.sl 10))]
 (qd 11 .skip (.exit 0)))
 (.block 1 (qr [qc 4 (.str ⟨#[110]⟩)]
 (qr [qi 5 8]
 (.seq (qr [qf 12 4 3,ql 13 1 false 12,qn 14 13,qk 15 .rem 14 2,qk 16 .eql 15 1]
 (qd 16 (qr [qc 4 (.str ⟨#[101]⟩)]
 (.reg [qi 5 9] [])) .skip))
 (.seq (qr [qm 17 0,qm 18 4,qu 19 210 17 18,qo 20 (.un .not (.sl 19))]
 (qd 20 (qr [qm 21 0,qt 22 209 21,qs 6 2 22]
 .ret) .skip))
 (.seq (.reg [qf 23 4 3,ql 24 1 false 23,qm 25 0,qm 26 5,qu 27 214 25 26,qo 28 (.bsl 199 6 [(.int .i64 0),(.int .i64 0),(.int .i64 0),(.str ⟨#[]⟩),qN,qN] 1 [(0,6,(.sl 27))]),qo 29 (.app 199 6 88 (.sl 24) (.sl 28)),qf 30 4 3,qs 1 30 29] [(1,4)])
 (.seq (qr [qm 31 5,qk 32 .eql 31 8,qm 33 32,⟨(some (33,true)),(some 34),.mv (.sl 0)⟩,⟨(some (33,true)),(some 35),.call 210 [(.sl 34),(.k (.str ⟨#[62]⟩))] []⟩,qy 36 33 35]
 (qd 36 (qr [ql 37 6 true 3,qs 6 2 37]
 .ret) .skip))
 (qr [qm 38 0,qo 39 (.call 210 [(.sl 38),(.k (.str ⟨#[32]⟩))] []),qo 40 (.un .not (.sl 39))]
 (qd 40 (qr [qm 41 0,qt 42 209 41,qs 6 2 42]
 .ret) .skip))))))))))))
 (qr [ql 43 6 true 3,qs 6 2 43]
 .ret)))),[.cell 2 6 true],false⟩
def F216:bn:=⟨33,1,(
 qr [qo 4 (.alloc [(.int .i64 0),(.int .i64 0),(.int .i64 0),(.str ⟨#[]⟩),qN,qN])]
 (qr [qo 6 (.build [(.int .i64 0),(.int .i64 0),(.int .i64 0),(.str ⟨#[]⟩),qN,qN] [(0,1,(.k (.int .i64 6)))]),qo 5 (.alloc [(.int .i64 0),(.int .i64 0),(.int .i64 0),(.str ⟨#[]⟩),qN,qN]),qs 6 5 6]
 (.seq (qr [qm 7 0,qo 8 (.call 210 [(.sl 7),(.k (.str ⟨#[93]⟩))] [])]
 (qd 8 (qr [ql 9 6 true 5,qs 6 4 9]
 .ret) .skip))
 (.seq (.block 0 (.loop (.seq (qr [qm 10 0,qo 11 (.nck (.sl 10)),qf 12 2 11,ql 13 1 false 12,qo 14 (.un .not (.sl 13))]
 (qd 14 .skip (.exit 0)))
 (.block 1 (.seq (.reg [qf 15 4 5,ql 16 1 false 15,qm 17 0,qm 18 1,qk 19 .add 18 1,qu 20 200 17 19,qo 21 (.bsl 199 6 [(.int .i64 0),(.int .i64 0),(.int .i64 0),(.str ⟨#[]⟩),qN,qN] 1 [(0,6,(.sl 20))]),qo 22 (.app 199 6 88 (.sl 16) (.sl 21)),qf 23 4 5,qs 1 23 22] [(1,5)])
 (.seq (qr [qm 24 0,qo 25 (.call 210 [(.sl 24),(.k (.str ⟨#[93]⟩))] [])]
 (qd 25 (qr [ql 26 6 true 5,qs 6 4 26]
 .ret) .skip))
 (qr [qm 27 0,qo 28 (.call 210 [(.sl 27),(.k (.str ⟨#[44]⟩))] []),qo 29 (.un .not (.sl 28))]
 (qd 29 (qr [qm 30 0,qt 31 209 30,qs 6 4 31]
 .ret) .skip))))))))
 (qr [ql 32 6 true 5,qs 6 4 32]
 .ret))))),[.cell 4 6 true],false⟩
def F217:bn:=⟨51,1,(
 qr [qo 4 (.alloc [(.int .i64 0),(.int .i64 0),(.int .i64 0),(.str ⟨#[]⟩),qN,qN])]
 (qr [qo 6 (.build [(.int .i64 0),(.int .i64 0),(.int .i64 0),(.str ⟨#[]⟩),qN,qN] [(0,1,(.k (.int .i64 7)))]),qo 5 (.alloc [(.int .i64 0),(.int .i64 0),(.int .i64 0),(.str ⟨#[]⟩),qN,qN]),qs 6 5 6]
 (.seq (qr [qm 7 0,qo 8 (.call 210 [(.sl 7),(.k (.str ⟨#[125]⟩))] [])]
 (qd 8 (qr [ql 9 6 true 5,qs 6 4 9]
 .ret) .skip))
 (.seq (.block 0 (.loop (.seq (qr [qm 10 0,qo 11 (.nck (.sl 10)),qf 12 2 11,ql 13 1 false 12,qo 14 (.un .not (.sl 13))]
 (qd 14 .skip (.exit 0)))
 (.block 1 (.seq (.reg [qf 15 5 5,ql 16 1 false 15,qm 17 0,qt 18 235 17,qo 19 (.bsl 9 1 [(.str ⟨#[]⟩)] 1 [(0,1,(.sl 18))]),qo 20 (.app 9 1 16 (.sl 16) (.sl 19)),qf 21 5 5,qs 1 21 20] [(1,3)])
 (.seq (qr [qm 22 0,qo 23 (.call 210 [(.sl 22),(.k (.str ⟨#[58]⟩))] []),qo 24 (.un .not (.sl 23))]
 (qd 24 (qr [qm 25 0,qt 26 209 25,qs 6 4 26]
 .ret) .skip))
 (.seq (.reg [qf 27 4 5,ql 28 1 false 27,qm 29 0,qm 30 1,qk 31 .add 30 1,qu 32 200 29 31,qo 33 (.bsl 199 6 [(.int .i64 0),(.int .i64 0),(.int .i64 0),(.str ⟨#[]⟩),qN,qN] 1 [(0,6,(.sl 32))]),qo 34 (.app 199 6 88 (.sl 28) (.sl 33)),qf 35 4 5,qs 1 35 34] [(1,5)])
 (.seq (qr [qm 36 0,qo 37 (.call 210 [(.sl 36),(.k (.str ⟨#[125]⟩))] [])]
 (qd 37 (.seq (qr [qf 38 5 5,ql 39 1 false 38,qt 40 166 39,qo 41 (.un .not (.sl 40))]
 (qd 41 (qr [qm 42 0,qt 43 209 42,qs 6 4 43]
 .ret) .skip))
 (qr [ql 44 6 true 5,qs 6 4 44]
 .ret)) .skip))
 (qr [qm 45 0,qo 46 (.call 210 [(.sl 45),(.k (.str ⟨#[44]⟩))] []),qo 47 (.un .not (.sl 46))]
 (qd 47 (qr [qm 48 0,qt 49 209 48,qs 6 4 49]
 .ret) .skip))))))))))
 (qr [ql 50 6 true 5,qs 6 4 50]
 .ret))))),[.cell 4 6 true],false⟩
def F231:bn:=⟨18,0,(
 qr [qc 4 (.bool false)]
 (qr [qm 5 0,qo 6 (.slen (.sl 5)),qm 7 1,qo 8 (.slen (.sl 7)),qb 9 .geq 6 8,qm 10 9,⟨(some (10,true)),(some 11),.mv (.sl 0)⟩,⟨(some (10,true)),(some 12),.mv (.sl 1)⟩,⟨(some (10,true)),(some 13),.slen (.sl 12)⟩,⟨(some (10,true)),(some 14),.ssl (.sl 11) none (some (.sl 13))⟩,⟨(some (10,true)),(some 15),.mv (.sl 1)⟩,⟨(some (10,true)),(some 16),.bin .eql (.sl 14) (.sl 15)⟩,qy 17 10 16,qm 4 17]
 .ret)),[.tmp 4],false⟩
def F232:bn:=⟨61,1,(
 qr [qi 4 0]
 (qr [qi 5 0]
 (.seq (qr [qi 6 0]
 (.block 0 (.loop (.seq (qr [qm 7 6,qm 8 1,qb 9 .lss 7 8]
 (qd 9 .skip (.exit 0)))
 (.seq (.block 1 (.seq (qr [qm 12 0,qo 13 (.nck (.sl 12)),qf 14 1 13,ql 15 1 false 14,qm 16 0,qo 17 (.nck (.sl 16)),qf 18 0 17,ql 19 1 false 18,qo 20 (.slen (.sl 19)),qb 21 .geq 15 20,qm 22 21,⟨(some (22,false)),(some 23),.mv (.sl 0)⟩,⟨(some (22,false)),(some 24),.nck (.sl 23)⟩,⟨(some (22,false)),(some 25),.fad 0 (.sl 24)⟩,⟨(some (22,false)),(some 26),.load 1 false (.sl 25)⟩,⟨(some (22,false)),(some 27),.mv (.sl 0)⟩,⟨(some (22,false)),(some 28),.nck (.sl 27)⟩,⟨(some (22,false)),(some 29),.fad 1 (.sl 28)⟩,⟨(some (22,false)),(some 30),.load 1 false (.sl 29)⟩,⟨(some (22,false)),(some 31),.sidx (.sl 26) (.sl 30)⟩,⟨(some (22,false)),(some 32),.call 169 [.sl 31] []⟩,⟨(some (22,false)),(some 33),.un .not (.sl 32)⟩,qx 34 22 33]
 (qd 34 (qr [qm 35 0,qo 36 (.nck (.sl 35)),qf 37 2 36,qe (.store 1 (.sl 37) (.k (.bool true)))]
 (qr [qi 4 0]
 .ret)) .skip))
 (qr [qm 38 5,qk 39 .mul 38 10,qm 40 0,qo 41 (.nck (.sl 40)),qf 42 0 41,ql 43 1 false 42,qm 44 0,qo 45 (.nck (.sl 44)),qf 46 1 45,ql 47 1 false 46,qo 48 (.sidx (.sl 43) (.sl 47)),qo 49 (.bin .sub (.sl 48) (.k (.int .u8 48))),qo 50 (.toInt .i64 (.sl 49)),qb 51 .add 39 50,qm 5 51]
 (.reg [qm 52 0,qm 53 0,qo 54 (.nck (.sl 53)),qf 55 1 54,ql 56 1 false 55,qk 57 .add 56 1,qo 58 (.nck (.sl 52)),qf 59 1 58,qs 1 59 57] []))))
 (.reg [qm 10 6,qk 11 .add 10 1,qm 6 11] []))))))
 (qr [qm 60 5,qm 4 60]
 .ret)))),[.tmp 4],false⟩
def F233:bn:=⟨16,0,(
 qr [qi 4 0]
 (qg [qm 5 1,qk 6 .eql 5 2,qm 7 6,⟨(some (7,true)),(some 8),.mv (.sl 0)⟩,⟨(some (7,true)),(some 9),.call 244 [.sl 8] []⟩,qy 10 7 9] 10 (qi 4 29)
 (qr [qo 11 (.bsl 2 1 [(.int .i64 0)] 12 [(0,1,(.k (.int .i64 31))),(1,1,(.k (.int .i64 28))),(2,1,(.k (.int .i64 31))),(3,1,(.k (.int .i64 30))),(4,1,(.k (.int .i64 31))),(5,1,(.k (.int .i64 30))),(6,1,(.k (.int .i64 31))),(7,1,(.k (.int .i64 31))),(8,1,(.k (.int .i64 30))),(9,1,(.k (.int .i64 31))),(10,1,(.k (.int .i64 30))),(11,1,(.k (.int .i64 31)))]),qm 12 1,qk 13 .sub 12 1,qa 14 1 11 13,ql 15 1 false 14,qm 4 15]
 .ret))),[.tmp 4],false⟩
def F234:bn:=⟨16,0,(
 qr [qi 2 0]
 (qr [qm 3 0,qk 4 .sub 3 1,qm 0 4]
 (qr [qm 5 0,qk 6 .mul 5 365,qm 7 0,qk 8 .quo 7 4,qb 9 .add 6 8,qm 10 0,qk 11 .quo 10 100,qb 12 .sub 9 11,qm 13 0,qk 14 .quo 13 400,qb 15 .add 12 14,qm 2 15]
 .ret))),[.tmp 2],false⟩
def F235:bn:=⟨87,1,(
 qr [qc 2 (.str ⟨#[]⟩)]
 (qr [qm 4 0,qo 5 (.nck (.sl 4)),qf 6 1 5,ql 7 1 false 6,qm 3 7]
 (.seq (.block 0 (.loop (.seq (qr [qm 8 0,qo 9 (.nck (.sl 8)),qf 10 1 9,ql 11 1 false 10,qm 12 0,qo 13 (.nck (.sl 12)),qf 14 0 13,ql 15 1 false 14,qo 16 (.slen (.sl 15)),qb 17 .lss 11 16,qm 18 17,⟨(some (18,true)),(some 19),.mv (.sl 0)⟩,⟨(some (18,true)),(some 20),.nck (.sl 19)⟩,⟨(some (18,true)),(some 21),.fad 0 (.sl 20)⟩,⟨(some (18,true)),(some 22),.load 1 false (.sl 21)⟩,⟨(some (18,true)),(some 23),.mv (.sl 0)⟩,⟨(some (18,true)),(some 24),.nck (.sl 23)⟩,⟨(some (18,true)),(some 25),.fad 1 (.sl 24)⟩,⟨(some (18,true)),(some 26),.load 1 false (.sl 25)⟩,⟨(some (18,true)),(some 27),.sidx (.sl 22) (.sl 26)⟩,⟨(some (18,true)),(some 28),.call 168 [.sl 27] []⟩,⟨(some (18,true)),(some 29),.mv (.sl 28)⟩,⟨(some (29,false)),(some 30),.mv (.sl 0)⟩,⟨(some (29,false)),(some 31),.nck (.sl 30)⟩,⟨(some (29,false)),(some 32),.fad 0 (.sl 31)⟩,⟨(some (29,false)),(some 33),.load 1 false (.sl 32)⟩,⟨(some (29,false)),(some 34),.mv (.sl 0)⟩,⟨(some (29,false)),(some 35),.nck (.sl 34)⟩,⟨(some (29,false)),(some 36),.fad 1 (.sl 35)⟩,⟨(some (29,false)),(some 37),.load 1 false (.sl 36)⟩,⟨(some (29,false)),(some 38),.sidx (.sl 33) (.sl 37)⟩,⟨(some (29,false)),(some 39),.call 169 [.sl 38] []⟩,⟨(some (18,true)),(some 40),.pick (.sl 29) (.k (.bool true)) (.sl 39)⟩,⟨(some (18,true)),(some 41),.mv (.sl 40)⟩,⟨(some (41,false)),(some 42),.mv (.sl 0)⟩,⟨(some (41,false)),(some 43),.nck (.sl 42)⟩,⟨(some (41,false)),(some 44),.fad 0 (.sl 43)⟩,⟨(some (41,false)),(some 45),.load 1 false (.sl 44)⟩,⟨(some (41,false)),(some 46),.mv (.sl 0)⟩,⟨(some (41,false)),(some 47),.nck (.sl 46)⟩,⟨(some (41,false)),(some 48),.fad 1 (.sl 47)⟩,⟨(some (41,false)),(some 49),.load 1 false (.sl 48)⟩,⟨(some (41,false)),(some 50),.sidx (.sl 45) (.sl 49)⟩,⟨(some (41,false)),(some 51),.bin .eql (.sl 50) (.k (.int .u8 95))⟩,⟨(some (18,true)),(some 52),.pick (.sl 41) (.k (.bool true)) (.sl 51)⟩,qy 53 18 52]
 (qd 53 .skip (.exit 0)))
 (.block 1 (.reg [qm 54 0,qm 55 0,qo 56 (.nck (.sl 55)),qf 57 1 56,ql 58 1 false 57,qk 59 .add 58 1,qo 60 (.nck (.sl 54)),qf 61 1 60,qs 1 61 59] [])))))
 (.seq (qr [qm 62 0,qo 63 (.nck (.sl 62)),qf 64 0 63,ql 65 1 false 64,qm 66 3,qm 67 0,qo 68 (.nck (.sl 67)),qf 69 1 68,ql 70 1 false 69,qo 71 (.ssl (.sl 65) (some (.sl 66)) (some (.sl 70))),qt 72 121 71,qo 73 (.un .not (.sl 72))]
 (qd 73 (.reg [qm 74 0,qo 75 (.nck (.sl 74)),qf 76 2 75,qe (.store 1 (.sl 76) (.k (.bool true)))] []) .skip))
 (qr [qm 77 0,qo 78 (.nck (.sl 77)),qf 79 0 78,ql 80 1 false 79,qm 81 3,qm 82 0,qo 83 (.nck (.sl 82)),qf 84 1 83,ql 85 1 false 84,qo 86 (.ssl (.sl 80) (some (.sl 81)) (some (.sl 85))),qm 2 86]
 .ret))))),[.tmp 2],false⟩
def F244:bn:=⟨16,0,(
 qr [qc 2 (.bool false)]
 (qr [qm 3 0,qk 4 .rem 3 4,qk 5 .eql 4 0,qm 6 5,⟨(some (6,true)),(some 7),.mv (.sl 0)⟩,⟨(some (6,true)),(some 8),.bin .rem (.sl 7) (.k (.int .i64 100))⟩,⟨(some (6,true)),(some 9),.bin .neq (.sl 8) (.k (.int .i64 0))⟩,⟨(some (6,true)),(some 10),.mv (.sl 9)⟩,⟨(some (10,false)),(some 11),.mv (.sl 0)⟩,⟨(some (10,false)),(some 12),.bin .rem (.sl 11) (.k (.int .i64 400))⟩,⟨(some (10,false)),(some 13),.bin .eql (.sl 12) (.k (.int .i64 0))⟩,⟨(some (6,true)),(some 14),.pick (.sl 10) (.k (.bool true)) (.sl 13)⟩,qy 15 6 14,qm 2 15]
 .ret)),[.tmp 2],false⟩
def F98:bn:=⟨38,0,(
 qr [qc 2 (.str ⟨#[]⟩)]
 (.seq (qr [qm 3 0,qk 4 .lss 3 0]
 (qd 4 (.seq (qr [qm 5 0,qk 6 .gtr 5 (-10)]
 (qd 6 (qr [qm 7 0,qo 8 (.un .neg (.sl 7)),qt 9 98 8,qo 10 (.bin .add (.k (.str ⟨#[45]⟩)) (.sl 9)),qm 2 10]
 .ret) .skip))
 (qr [qm 11 0,qk 12 .quo 11 10,qt 13 98 12,qm 14 0,qk 15 .rem 14 10,qo 16 (.bin .sub (.k (.int .i64 48)) (.sl 15)),qo 17 (.toInt .u8 (.sl 16)),qo 18 (.bsl 5 1 [(.int .u8 0)] 1 [(0,1,(.sl 17))]),qo 19 (.b2s (.sl 18)),qb 20 .add 13 19,qm 2 20]
 .ret)) .skip))
 (.seq (qr [qm 21 0,qk 22 .lss 21 10]
 (qd 22 (qr [qm 23 0,qo 24 (.bin .add (.k (.int .i64 48)) (.sl 23)),qo 25 (.toInt .u8 (.sl 24)),qo 26 (.bsl 5 1 [(.int .u8 0)] 1 [(0,1,(.sl 25))]),qo 27 (.b2s (.sl 26)),qm 2 27]
 .ret) .skip))
 (qr [qm 28 0,qk 29 .quo 28 10,qt 30 98 29,qm 31 0,qk 32 .rem 31 10,qo 33 (.bin .add (.k (.int .i64 48)) (.sl 32)),qo 34 (.toInt .u8 (.sl 33)),qo 35 (.bsl 5 1 [(.int .u8 0)] 1 [(0,1,(.sl 34))]),qo 36 (.b2s (.sl 35)),qb 37 .add 30 36,qm 2 37]
 .ret)))),[.tmp 2],false⟩
def F46:bn:=⟨92,0,(
 qr [qo 1 (.box 2 (.sl 0)),qc 2 (.bool false)]
 (qg [qf 8 0 1,ql 9 1 false 8,qn 10 9,qk 11 .gtr 10 200,qm 12 11,⟨(some (12,false)),(some 13),.fad 1 (.sl 1)⟩,⟨(some (12,false)),(some 14),.load 1 false (.sl 13)⟩,⟨(some (12,false)),(some 15),.len (.sl 14)⟩,⟨(some (12,false)),(some 16),.bin .gtr (.sl 15) (.k (.int .i64 400))⟩,qx 17 12 16] 17 (qc 2 (.bool false))
 (qr [qo 18 (.mkmap),qm 3 18]
 (.seq (qr [qf 19 0 1,ql 20 1 false 19,qn 21 20,qi 22 0]
 (.block 0 (.loop (qr [qb 23 .lss 22 21]
 (.seq (qd 23 .skip (.exit 0))
 (.seq (.block 1 (qr [qm 24 22,qa 25 3 20 22,ql 26 3 true 25,qo 5 (.alloc [(.int .i64 0),qN,qN]),qm 4 24,qs 3 5 26]
 (qg [ql 27 3 true 5,qt 28 88 27,qo 29 (.un .not (.sl 28)),qm 30 29,⟨(some (30,false)),(some 31),.mv (.sl 4)⟩,⟨(some (30,false)),(some 32),.bin .gtr (.sl 31) (.k (.int .i64 0))⟩,⟨(some (30,false)),(some 33),.mv (.sl 32)⟩,⟨(some (33,true)),(some 34),.fad 0 (.sl 1)⟩,⟨(some (33,true)),(some 35),.load 1 false (.sl 34)⟩,⟨(some (33,true)),(some 36),.mv (.sl 4)⟩,⟨(some (33,true)),(some 37),.bin .sub (.sl 36) (.k (.int .i64 1))⟩,⟨(some (33,true)),(some 38),.iad 3 (.sl 35) (.sl 37)⟩,⟨(some (33,true)),(some 39),.fad 0 (.sl 38)⟩,⟨(some (33,true)),(some 40),.load 1 false (.sl 39)⟩,⟨(some (33,true)),(some 41),.fad 0 (.sl 5)⟩,⟨(some (33,true)),(some 42),.load 1 false (.sl 41)⟩,⟨(some (33,true)),(some 43),.bin .geq (.sl 40) (.sl 42)⟩,⟨(some (30,false)),(some 44),.pick (.sl 33) (.sl 43) (.k (.bool false))⟩,qx 45 30 44] 45 (qc 2 (.bool false))
 (.reg [qm 46 3,qf 47 0 5,ql 48 1 false 47,qe (.mpset 0 (.sl 46) (.sl 48) (.k (.int .i64 1)))] []))))
 (.reg [qk 49 .add 22 1,qm 22 49] [])))))))
 (.seq (qr [qf 50 1 1,ql 51 1 false 50,qn 52 51,qi 53 0]
 (.block 2 (.loop (qr [qb 54 .lss 53 52]
 (.seq (qd 54 .skip (.exit 2))
 (.seq (.block 3 (qr [qm 55 53,qa 56 5 51 53,ql 57 5 true 56,qo 7 (.alloc [(.int .i64 0),(.str ⟨#[]⟩),(.int .i64 0),(.int .i64 0),qN]),qm 6 55,qs 5 7 57]
 (qr [ql 58 5 true 7,qt 59 89 58,qo 60 (.un .not (.sl 59)),qm 61 60,⟨(some (61,false)),(some 62),.mv (.sl 6)⟩,⟨(some (61,false)),(some 63),.bin .gtr (.sl 62) (.k (.int .i64 0))⟩,⟨(some (61,false)),(some 64),.mv (.sl 63)⟩,⟨(some (64,true)),(some 65),.fad 1 (.sl 1)⟩,⟨(some (64,true)),(some 66),.load 1 false (.sl 65)⟩,⟨(some (64,true)),(some 67),.mv (.sl 6)⟩,⟨(some (64,true)),(some 68),.bin .sub (.sl 67) (.k (.int .i64 1))⟩,⟨(some (64,true)),(some 69),.iad 5 (.sl 66) (.sl 68)⟩,⟨(some (64,true)),(some 70),.fad 0 (.sl 69)⟩,⟨(some (64,true)),(some 71),.load 1 false (.sl 70)⟩,⟨(some (64,true)),(some 72),.fad 0 (.sl 7)⟩,⟨(some (64,true)),(some 73),.load 1 false (.sl 72)⟩,⟨(some (64,true)),(some 74),.bin .geq (.sl 71) (.sl 73)⟩,⟨(some (61,false)),(some 75),.pick (.sl 64) (.sl 74) (.k (.bool false))⟩,qx 76 61 75,qm 77 76,⟨(some (77,false)),(some 78),.mv (.sl 3)⟩,⟨(some (77,false)),(some 79),.fad 2 (.sl 7)⟩,⟨(some (77,false)),(some 80),.load 1 false (.sl 79)⟩,⟨(some (77,false)),(some 81),.mpget false (.int .i64 0) 0 (.sl 78) (.sl 80)⟩,⟨(some (77,false)),(some 82),.bin .eql (.sl 81) (.k (.int .i64 0))⟩,qx 83 77 82,qm 84 83,⟨(some (84,false)),(some 85),.mv (.sl 3)⟩,⟨(some (84,false)),(some 86),.fad 3 (.sl 7)⟩,⟨(some (84,false)),(some 87),.load 1 false (.sl 86)⟩,⟨(some (84,false)),(some 88),.mpget false (.int .i64 0) 0 (.sl 85) (.sl 87)⟩,⟨(some (84,false)),(some 89),.bin .eql (.sl 88) (.k (.int .i64 0))⟩,qx 90 84 89]
 (qd 90 (qr [qc 2 (.bool false)]
 .ret) .skip))))
 (.reg [qk 91 .add 53 1,qm 53 91] [])))))))
 (qr [qc 2 (.bool true)]
 .ret)))))),[.tmp 2],false⟩
def F88:bn:=⟨16,0,(
 qr [qo 1 (.box 3 (.sl 0)),qc 2 (.bool false)]
 (qr [qf 3 0 1,ql 4 1 false 3,qt 5 124 4,qm 6 5,⟨(some (6,true)),(some 7),.fad 1 (.sl 1)⟩,⟨(some (6,true)),(some 8),.load 1 false (.sl 7)⟩,⟨(some (6,true)),(some 9),.call 125 [(.sl 8),(.k (.int .i64 10))] []⟩,qy 10 6 9,qm 11 10,⟨(some (11,true)),(some 12),.fad 2 (.sl 1)⟩,⟨(some (11,true)),(some 13),.load 1 false (.sl 12)⟩,⟨(some (11,true)),(some 14),.call 126 [.sl 13] []⟩,qy 15 11 14,qm 2 15]
 .ret)),[.tmp 2],false⟩
def F89:bn:=⟨26,0,(
 qr [qo 1 (.box 5 (.sl 0)),qc 2 (.bool false)]
 (qr [qf 3 0 1,ql 4 1 false 3,qt 5 124 4,qm 6 5,⟨(some (6,true)),(some 7),.fad 1 (.sl 1)⟩,⟨(some (6,true)),(some 8),.load 1 false (.sl 7)⟩,⟨(some (6,true)),(some 9),.call 127 [.sl 8] []⟩,qy 10 6 9,qm 11 10,⟨(some (11,true)),(some 12),.fad 2 (.sl 1)⟩,⟨(some (11,true)),(some 13),.load 1 false (.sl 12)⟩,⟨(some (11,true)),(some 14),.call 124 [.sl 13] []⟩,qy 15 11 14,qm 16 15,⟨(some (16,true)),(some 17),.fad 3 (.sl 1)⟩,⟨(some (16,true)),(some 18),.load 1 false (.sl 17)⟩,⟨(some (16,true)),(some 19),.call 124 [.sl 18] []⟩,qy 20 16 19,qm 21 20,⟨(some (21,true)),(some 22),.fad 4 (.sl 1)⟩,⟨(some (21,true)),(some 23),.load 1 false (.sl 22)⟩,⟨(some (21,true)),(some 24),.call 126 [.sl 23] []⟩,qy 25 21 24,qm 2 25]
 .ret)),[.tmp 2],false⟩
def F90:bn:=⟨21,0,(
 qr [qo 2 (.box 2 (.sl 0)),qi 4 0]
 (.seq (qr [qf 7 0 2,ql 8 1 false 7,qn 9 8,qi 10 0]
 (.block 0 (.loop (qr [qb 11 .lss 10 9]
 (.seq (qd 11 .skip (.exit 0))
 (.seq (.block 1 (qr [qm 12 10,qa 13 3 8 10,ql 14 3 true 13,qo 6 (.alloc [(.int .i64 0),qN,qN]),qm 5 12,qs 3 6 14]
 (qr [qf 15 0 6,ql 16 1 false 15,qm 17 1,qb 18 .eql 16 17]
 (qd 18 (qr [qm 19 5,qm 4 19]
 .ret) .skip))))
 (.reg [qk 20 .add 10 1,qm 10 20] [])))))))
 (qr [qi 4 (-1)]
 .ret))),[.tmp 4],false⟩
def F124:bn:=⟨9,0,(
 qr [qc 2 (.bool false)]
 (qr [qm 3 0,qk 4 .geq 3 1,qm 5 4,⟨(some (5,true)),(some 6),.mv (.sl 0)⟩,⟨(some (5,true)),(some 7),.bin .leq (.sl 6) (.k (.int .i64 1000000000000))⟩,qy 8 5 7,qm 2 8]
 .ret)),[.tmp 2],false⟩
def F125:bn:=⟨35,0,(
 qr [qc 4 (.bool false)]
 (qg [qm 7 0,qn 8 7,qm 9 1,qb 10 .gtr 8 9] 10 (qc 4 (.bool false))
 (.seq (qr [qm 11 0,qn 12 11,qi 13 0]
 (.block 0 (.loop (qr [qb 14 .lss 13 12]
 (.seq (qd 14 .skip (.exit 0))
 (.seq (.block 1 (qr [qm 15 13,qa 16 1 11 13,ql 17 1 false 16,qm 5 15,qm 6 17]
 (qr [qm 18 6,qt 19 127 18,qo 20 (.un .not (.sl 19)),qm 21 20,⟨(some (21,false)),(some 22),.mv (.sl 5)⟩,⟨(some (21,false)),(some 23),.bin .gtr (.sl 22) (.k (.int .i64 0))⟩,⟨(some (21,false)),(some 24),.mv (.sl 23)⟩,⟨(some (24,true)),(some 25),.mv (.sl 0)⟩,⟨(some (24,true)),(some 26),.mv (.sl 5)⟩,⟨(some (24,true)),(some 27),.bin .sub (.sl 26) (.k (.int .i64 1))⟩,⟨(some (24,true)),(some 28),.iad 1 (.sl 25) (.sl 27)⟩,⟨(some (24,true)),(some 29),.load 1 false (.sl 28)⟩,⟨(some (24,true)),(some 30),.mv (.sl 6)⟩,⟨(some (24,true)),(some 31),.bin .geq (.sl 29) (.sl 30)⟩,⟨(some (21,false)),(some 32),.pick (.sl 24) (.sl 31) (.k (.bool false))⟩,qx 33 21 32]
 (qd 33 (qr [qc 4 (.bool false)]
 .ret) .skip))))
 (.reg [qk 34 .add 13 1,qm 13 34] [])))))))
 (qr [qc 4 (.bool true)]
 .ret)))),[.tmp 4],false⟩
def F126:bn:=⟨41,0,(
 qr [qc 2 (.bool false)]
 (qg [qm 5 0,qn 6 5,qk 7 .gtr 6 20] 7 (qc 2 (.bool false))
 (.seq (qr [qm 8 0,qn 9 8,qi 10 0]
 (.block 0 (.loop (qr [qb 11 .lss 10 9]
 (.seq (qd 11 .skip (.exit 0))
 (.seq (.block 1 (qr [qm 12 10,qa 13 2 8 10,ql 14 2 true 13,qo 4 (.alloc [(.str ⟨#[]⟩),(.str ⟨#[]⟩)]),qm 3 12,qs 2 4 14]
 (qr [qf 15 0 4,ql 16 1 false 15,qt 17 127 16,qo 18 (.un .not (.sl 17)),qm 19 18,⟨(some (19,false)),(some 20),.mv (.sl 3)⟩,⟨(some (19,false)),(some 21),.bin .gtr (.sl 20) (.k (.int .i64 0))⟩,⟨(some (19,false)),(some 22),.mv (.sl 21)⟩,⟨(some (22,true)),(some 23),.mv (.sl 0)⟩,⟨(some (22,true)),(some 24),.mv (.sl 3)⟩,⟨(some (22,true)),(some 25),.bin .sub (.sl 24) (.k (.int .i64 1))⟩,⟨(some (22,true)),(some 26),.iad 2 (.sl 23) (.sl 25)⟩,⟨(some (22,true)),(some 27),.fad 0 (.sl 26)⟩,⟨(some (22,true)),(some 28),.load 1 false (.sl 27)⟩,⟨(some (22,true)),(some 29),.fad 0 (.sl 4)⟩,⟨(some (22,true)),(some 30),.load 1 false (.sl 29)⟩,⟨(some (22,true)),(some 31),.bin .geq (.sl 28) (.sl 30)⟩,⟨(some (19,false)),(some 32),.pick (.sl 22) (.sl 31) (.k (.bool false))⟩,qx 33 19 32,qm 34 33,⟨(some (34,false)),(some 35),.fad 1 (.sl 4)⟩,⟨(some (34,false)),(some 36),.load 1 false (.sl 35)⟩,⟨(some (34,false)),(some 37),.call 171 [.sl 36] []⟩,⟨(some (34,false)),(some 38),.un .not (.sl 37)⟩,qx 39 34 38]
 (qd 39 (qr [qc 2 (.bool false)]
 .ret) .skip))))
 (.reg [qk 40 .add 10 1,qm 10 40] [])))))))
 (qr [qc 2 (.bool true)]
 .ret)))),[.tmp 2],false⟩
def F127:bn:=⟨42,0,(
 qr [qc 2 (.bool false)]
 (qg [qm 4 0,qo 5 (.slen (.sl 4)),qk 6 .lss 5 1,qm 7 6,⟨(some (7,false)),(some 8),.mv (.sl 0)⟩,⟨(some (7,false)),(some 9),.slen (.sl 8)⟩,⟨(some (7,false)),(some 10),.bin .gtr (.sl 9) (.k (.int .i64 20))⟩,qx 11 7 10,qm 12 11,⟨(some (12,false)),(some 13),.mv (.sl 0)⟩,⟨(some (12,false)),(some 14),.sidx (.sl 13) (.k (.int .i64 0))⟩,⟨(some (12,false)),(some 15),.call 172 [.sl 14] []⟩,⟨(some (12,false)),(some 16),.un .not (.sl 15)⟩,qx 17 12 16] 17 (qc 2 (.bool false))
 (.seq (qr [qm 18 0,qo 19 (.slen (.sl 18)),qi 20 0]
 (.block 0 (.loop (qr [qb 21 .lss 20 19]
 (.seq (qd 21 .skip (.exit 0))
 (.seq (.block 1 (qr [qm 22 20,qm 3 22]
 (qr [qm 23 0,qm 24 3,qo 25 (.sidx (.sl 23) (.sl 24)),qt 26 172 25,qo 27 (.un .not (.sl 26)),qm 28 27,⟨(some (28,true)),(some 29),.mv (.sl 0)⟩,⟨(some (28,true)),(some 30),.mv (.sl 3)⟩,⟨(some (28,true)),(some 31),.sidx (.sl 29) (.sl 30)⟩,⟨(some (28,true)),(some 32),.call 173 [.sl 31] []⟩,⟨(some (28,true)),(some 33),.un .not (.sl 32)⟩,qy 34 28 33,qm 35 34,⟨(some (35,true)),(some 36),.mv (.sl 0)⟩,⟨(some (35,true)),(some 37),.mv (.sl 3)⟩,⟨(some (35,true)),(some 38),.sidx (.sl 36) (.sl 37)⟩,⟨(some (35,true)),(some 39),.bin .neq (.sl 38) (.k (.int .u8 95))⟩,qy 40 35 39]
 (qd 40 (qr [qc 2 (.bool false)]
 .ret) .skip))))
 (.reg [qk 41 .add 20 1,qm 20 41] [])))))))
 (qr [qc 2 (.bool true)]
 .ret)))),[.tmp 2],false⟩
def F171:bn:=⟨21,0,(
 qr [qc 2 (.bool false)]
 (qr [qm 6 0,qt 7 188 6,qm 5 7,qo 8 (.ext (.sl 5) 0),qo 9 (.ext (.sl 5) 1),qo 3 (.alloc [(.int .i64 0),(.int .i64 0),(.int .i64 0),(.str ⟨#[]⟩),qN,qN]),qs 6 3 8,qm 4 9]
 (qr [qm 10 4,qm 11 10,⟨(some (11,true)),(some 12),.fad 0 (.sl 3)⟩,⟨(some (11,true)),(some 13),.load 1 false (.sl 12)⟩,⟨(some (11,true)),(some 14),.bin .neq (.sl 13) (.k (.int .i64 0))⟩,qy 15 11 14,qm 16 15,⟨(some (16,true)),(some 17),.load 6 true (.sl 3)⟩,⟨(some (16,true)),(some 18),.call 192 [.sl 17] []⟩,⟨(some (16,true)),(some 19),.un .not (.sl 18)⟩,qy 20 16 19,qm 2 20]
 .ret))),[.tmp 2],false⟩
def F172:bn:=⟨17,0,(
 qr [qc 2 (.bool false)]
 (qr [qm 3 0,qo 4 (.bin .geq (.sl 3) (.k (.int .u8 97))),qm 5 4,⟨(some (5,true)),(some 6),.mv (.sl 0)⟩,⟨(some (5,true)),(some 7),.bin .leq (.sl 6) (.k (.int .u8 122))⟩,qy 8 5 7,qm 9 8,⟨(some (9,false)),(some 10),.mv (.sl 0)⟩,⟨(some (9,false)),(some 11),.bin .geq (.sl 10) (.k (.int .u8 65))⟩,⟨(some (9,false)),(some 12),.mv (.sl 11)⟩,⟨(some (12,true)),(some 13),.mv (.sl 0)⟩,⟨(some (12,true)),(some 14),.bin .leq (.sl 13) (.k (.int .u8 90))⟩,⟨(some (9,false)),(some 15),.pick (.sl 12) (.sl 14) (.k (.bool false))⟩,qx 16 9 15,qm 2 16]
 .ret)),[.tmp 2],false⟩
def F173:bn:=⟨9,0,(
 qr [qc 2 (.bool false)]
 (qr [qm 3 0,qo 4 (.bin .geq (.sl 3) (.k (.int .u8 48))),qm 5 4,⟨(some (5,true)),(some 6),.mv (.sl 0)⟩,⟨(some (5,true)),(some 7),.bin .leq (.sl 6) (.k (.int .u8 57))⟩,qy 8 5 7,qm 2 8]
 .ret)),[.tmp 2],false⟩
def F188:bn:=⟨30,0,(
 qr [qo 2 (.alloc [(.int .i64 0),(.int .i64 0),(.int .i64 0),(.str ⟨#[]⟩),qN,qN]),qc 3 (.bool false)]
 (.seq (qr [qm 7 0,qo 8 (.slen (.sl 7)),qk 9 .gtr 8 2000]
 (qd 9 (qr [qo 10 (.build [(.int .i64 0),(.int .i64 0),(.int .i64 0),(.str ⟨#[]⟩),qN,qN] []),qs 6 2 10,qc 3 (.bool false)]
 .ret) .skip))
 (qr [qm 11 0,qo 12 (.build [(.str ⟨#[]⟩),(.int .i64 0)] [(0,1,(.sl 11))]),qo 13 (.box 2 (.sl 12)),qm 4 13]
 (qr [qm 15 4,qo 16 (.call 201 [(.sl 15),(.k (.int .i64 0))] []),qm 14 16,qo 17 (.ext (.sl 14) 0),qo 18 (.ext (.sl 14) 1),qo 5 (.alloc [(.int .i64 0),(.int .i64 0),(.int .i64 0),(.str ⟨#[]⟩),qN,qN]),qs 6 5 17,qm 6 18]
 (.seq (.reg [ql 19 6 true 5,qm 20 6,qm 21 20,⟨(some (21,true)),(some 22),.mv (.sl 4)⟩,⟨(some (21,true)),(some 23),.nck (.sl 22)⟩,⟨(some (21,true)),(some 24),.fad 1 (.sl 23)⟩,⟨(some (21,true)),(some 25),.load 1 false (.sl 24)⟩,⟨(some (21,true)),(some 26),.mv (.sl 0)⟩,⟨(some (21,true)),(some 27),.slen (.sl 26)⟩,⟨(some (21,true)),(some 28),.bin .eql (.sl 25) (.sl 27)⟩,qy 29 21 28,qs 6 2 19,qm 3 29] [(6,11)])
 .ret))))),[.cell 2 6 true,.tmp 3],false⟩
def F192:bn:=⟨18,0,(
 qr [qo 1 (.box 6 (.sl 0)),qc 2 (.bool false)]
 (qg [qf 5 0 1,ql 6 1 false 5,qk 7 .geq 6 8] 7 (qc 2 (.bool true))
 (.seq (qr [qf 8 5 1,ql 9 1 false 8,qn 10 9,qi 11 0]
 (.block 0 (.loop (qr [qb 12 .lss 11 10]
 (.seq (qd 12 .skip (.exit 0))
 (.seq (.block 1 (qr [qa 13 6 9 11,ql 14 6 true 13,qo 4 (.alloc [(.int .i64 0),(.int .i64 0),(.int .i64 0),(.str ⟨#[]⟩),qN,qN]),qs 6 4 14]
 (qr [ql 15 6 true 4,qt 16 192 15]
 (qd 16 (qr [qc 2 (.bool true)]
 .ret) .skip))))
 (.reg [qk 17 .add 11 1,qm 11 17] [])))))))
 (qr [qc 2 (.bool false)]
 .ret)))),[.tmp 2],false⟩
def F201:bn:=⟨106,1,(
 qr [qo 4 (.alloc [(.int .i64 0),(.int .i64 0),(.int .i64 0),(.str ⟨#[]⟩),qN,qN]),qc 5 (.bool false)]
 (.seq (qr [qm 13 0,qt 14 218 13,qm 6 14]
 (.block 0 (qr [qm 16 6,qo 17 (.bin .eql (.sl 16) (.k (.int .u8 34))),qm 15 17]
 (qd 15 (qr [qm 19 0,qt 20 219 19,qm 18 20,qo 21 (.ext (.sl 18) 0),qo 22 (.ext (.sl 18) 1),qm 7 21,qm 8 22]
 (qr [qm 23 7,qo 24 (.build [(.int .i64 0),(.int .i64 0),(.int .i64 0),(.str ⟨#[]⟩),qN,qN] [(0,1,(.k (.int .i64 3))),(3,1,(.sl 23))]),qm 25 8,qs 6 4 24,qm 5 25]
 .ret)) (qr [qm 27 6,qo 28 (.bin .eql (.sl 27) (.k (.int .u8 64))),qm 26 28]
 (qd 26 (qr [qm 30 0,qt 31 220 30,qm 29 31,qo 32 (.ext (.sl 29) 0),qo 33 (.ext (.sl 29) 1),qm 9 32,qm 10 33]
 (qr [qm 34 9,qo 35 (.build [(.int .i64 0),(.int .i64 0),(.int .i64 0),(.str ⟨#[]⟩),qN,qN] [(0,1,(.k (.int .i64 4))),(1,1,(.sl 34))]),qm 36 10,qs 6 4 35,qm 5 36]
 .ret)) (qr [qm 38 6,qo 39 (.bin .eql (.sl 38) (.k (.int .u8 45))),qm 40 39,⟨(some (40,false)),(some 41),.mv (.sl 6)⟩,⟨(some (40,false)),(some 42),.call 173 [.sl 41] []⟩,qx 43 40 42,qm 37 43]
 (qd 37 (qr [qm 45 0,qt 46 221 45,qm 44 46,qo 47 (.ext (.sl 44) 0),qo 48 (.ext (.sl 44) 1),qm 11 47,qm 12 48]
 (qr [qm 49 11,qo 50 (.build [(.int .i64 0),(.int .i64 0),(.int .i64 0),(.str ⟨#[]⟩),qN,qN] [(0,1,(.k (.int .i64 2))),(1,1,(.sl 49))]),qm 51 12,qs 6 4 50,qm 5 51]
 .ret)) (qr [qm 53 6,qo 54 (.bin .eql (.sl 53) (.k (.int .u8 40))),qm 52 54]
 (qd 52 (qr [qm 55 0,qt 56 222 55,qo 57 (.ext (.sl 56) 0),qo 58 (.ext (.sl 56) 1),qs 6 4 57,qm 5 58]
 .ret) (qr [qm 60 6,qo 61 (.bin .eql (.sl 60) (.k (.int .u8 91))),qm 59 61]
 (qd 59 (qr [qm 62 0,qm 63 1,qu 64 223 62 63,qo 65 (.ext (.sl 64) 0),qo 66 (.ext (.sl 64) 1),qs 6 4 65,qm 5 66]
 .ret) (qr [qm 68 6,qo 69 (.bin .eql (.sl 68) (.k (.int .u8 123))),qm 67 69]
 (qd 67 (qr [qm 70 0,qm 71 1,qu 72 224 70 71,qo 73 (.ext (.sl 72) 0),qo 74 (.ext (.sl 72) 1),qs 6 4 73,qm 5 74]
 .ret) (qr [qm 76 6,qo 77 (.bin .eql (.sl 76) (.k (.int .u8 60))),qm 75 77]
 (qd 75 (qr [qm 78 0,qt 79 225 78,qo 80 (.ext (.sl 79) 0),qo 81 (.ext (.sl 79) 1),qs 6 4 80,qm 5 81]
 .ret) (qr [qm 83 0,qo 84 (.call 226 [(.sl 83),(.k (.str ⟨#[110,117,108,108]⟩))] []),qm 82 84]
 (qd 82 (qr [qo 85 (.build [(.int .i64 0),(.int .i64 0),(.int .i64 0),(.str ⟨#[]⟩),qN,qN] []),qs 6 4 85,qc 5 (.bool true)]
 .ret) (qr [qm 87 0,qo 88 (.call 226 [(.sl 87),(.k (.str ⟨#[116,114,117,101]⟩))] []),qm 86 88]
 (qd 86 (qr [qo 89 (.build [(.int .i64 0),(.int .i64 0),(.int .i64 0),(.str ⟨#[]⟩),qN,qN] [(0,1,(.k (.int .i64 1))),(1,1,(.k (.int .i64 1)))]),qs 6 4 89,qc 5 (.bool true)]
 .ret) (qr [qm 91 0,qo 92 (.call 226 [(.sl 91),(.k (.str ⟨#[102,97,108,115,101]⟩))] []),qm 90 92]
 (qd 90 (qr [qo 93 (.build [(.int .i64 0),(.int .i64 0),(.int .i64 0),(.str ⟨#[]⟩),qN,qN] [(0,1,(.k (.int .i64 1)))]),qs 6 4 93,qc 5 (.bool true)]
 .ret) (qr [qm 95 6,qo 96 (.bin .eql (.sl 95) (.k (.int .u8 110))),qm 97 96,⟨(some (97,false)),(some 98),.mv (.sl 6)⟩,⟨(some (97,false)),(some 99),.bin .eql (.sl 98) (.k (.int .u8 101))⟩,qx 100 97 99,qm 94 100]
 (qd 94 (qr [qm 101 0,qt 102 227 101,qo 103 (.ext (.sl 102) 0),qo 104 (.ext (.sl 102) 1),qs 6 4 103,qm 5 104]
 .ret) .skip))))))))))))))))))))))))
 (qr [qo 105 (.build [(.int .i64 0),(.int .i64 0),(.int .i64 0),(.str ⟨#[]⟩),qN,qN] []),qs 6 4 105,qc 5 (.bool false)]
 .ret))),[.cell 4 6 true,.tmp 5],false⟩
def F218:bn:=⟨22,1,(
 qr [qc 2 (.int .u8 0)]
 (.seq (qr [qm 3 0,qo 4 (.nck (.sl 3)),qf 5 1 4,ql 6 1 false 5,qm 7 0,qo 8 (.nck (.sl 7)),qf 9 0 8,ql 10 1 false 9,qo 11 (.slen (.sl 10)),qb 12 .lss 6 11]
 (qd 12 (qr [qm 13 0,qo 14 (.nck (.sl 13)),qf 15 0 14,ql 16 1 false 15,qm 17 0,qo 18 (.nck (.sl 17)),qf 19 1 18,ql 20 1 false 19,qo 21 (.sidx (.sl 16) (.sl 20)),qm 2 21]
 .ret) .skip))
 (qr [qc 2 (.int .u8 0)]
 .ret))),[.tmp 2],false⟩
def F219:bn:=⟨79,1,(
 qr [qc 2 (.str ⟨#[]⟩),qc 3 (.bool false)]
 (.seq (qr [qm 6 0,qo 7 (.call 226 [(.sl 6),(.k (.str ⟨#[34]⟩))] []),qo 8 (.un .not (.sl 7))]
 (qd 8 (qr [qc 2 (.str ⟨#[]⟩),qc 3 (.bool false)]
 .ret) .skip))
 (qr [qc 4 qN]
 (.seq (.block 0 (.loop (.seq (qr [qm 9 0,qo 10 (.nck (.sl 9)),qf 11 1 10,ql 12 1 false 11,qm 13 0,qo 14 (.nck (.sl 13)),qf 15 0 14,ql 16 1 false 15,qo 17 (.slen (.sl 16)),qb 18 .lss 12 17]
 (qd 18 .skip (.exit 0)))
 (.block 1 (qr [qm 19 0,qo 20 (.nck (.sl 19)),qf 21 0 20,ql 22 1 false 21,qm 23 0,qo 24 (.nck (.sl 23)),qf 25 1 24,ql 26 1 false 25,qo 27 (.sidx (.sl 22) (.sl 26)),qm 5 27]
 (qr [qm 28 0,qo 29 (.nck (.sl 28)),qf 30 1 29,ql 31 1 false 30,qk 32 .add 31 1,qo 33 (.nck (.sl 28)),qf 34 1 33,qs 1 34 32]
 (.block 2 (qr [qm 40 5,qo 41 (.bin .eql (.sl 40) (.k (.int .u8 34))),qm 39 41]
 (qd 39 (qr [qm 42 4,qo 43 (.b2s (.sl 42)),qm 2 43,qc 3 (.bool true)]
 .ret) (qr [qm 45 5,qo 46 (.bin .eql (.sl 45) (.k (.int .u8 92))),qm 44 46]
 (qd 44 (.seq (qr [qm 47 0,qt 48 218 47]
 (.block 3 (.seq (qr [qo 50 (.bin .eql (.sl 48) (.k (.int .u8 34))),qm 49 50]
 (qd 49 .skip (.reg [qo 51 (.bin .eql (.sl 48) (.k (.int .u8 92))),qm 49 51] [])))
 (qd 49 (.reg [qm 52 4,qm 53 0,qo 54 (.nck (.sl 53)),qf 55 0 54,ql 56 1 false 55,qm 57 0,qo 58 (.nck (.sl 57)),qf 59 1 58,ql 60 1 false 59,qo 61 (.sidx (.sl 56) (.sl 60)),qo 62 (.bsl 5 1 [(.int .u8 0)] 1 [(0,1,(.sl 61))]),qo 63 (.app 5 1 1 (.sl 52) (.sl 62)),qm 4 63] []) (qr [qo 65 (.bin .eql (.sl 48) (.k (.int .u8 110))),qm 64 65]
 (qd 64 (.reg [qm 66 4,qo 67 (.bsl 5 1 [(.int .u8 0)] 1 [(0,1,(.k (.int .u8 10)))]),qo 68 (.app 5 1 1 (.sl 66) (.sl 67)),qm 4 68] []) (qr [qc 2 (.str ⟨#[]⟩),qc 3 (.bool false)]
 .ret)))))))
 (.reg [qm 69 0,qo 70 (.nck (.sl 69)),qf 71 1 70,ql 72 1 false 71,qk 73 .add 72 1,qo 74 (.nck (.sl 69)),qf 75 1 74,qs 1 75 73] [])) (qr [qm 77 5,qo 78 (.bin .lss (.sl 77) (.k (.int .u8 32))),qm 76 78]
 (qd 76 (qr [qc 2 (.str ⟨#[]⟩),qc 3 (.bool false)]
 .ret) (.reg [qm 35 4,qm 36 5,qo 37 (.bsl 5 1 [(.int .u8 0)] 1 [(0,1,(.sl 36))]),qo 38 (.app 5 1 1 (.sl 35) (.sl 37)),qm 4 38] []))))))))))))))
 (qr [qc 2 (.str ⟨#[]⟩),qc 3 (.bool false)]
 .ret))))),[.tmp 2,.tmp 3],false⟩
def F220:bn:=⟨117,1,(
 qr [qi 2 0,qc 3 (.bool false)]
 (.seq (qr [qm 9 0,qo 10 (.nck (.sl 9)),qf 11 0 10,ql 12 1 false 11,qo 13 (.slen (.sl 12)),qm 14 0,qo 15 (.nck (.sl 14)),qf 16 1 15,ql 17 1 false 16,qb 18 .sub 13 17,qk 19 .lss 18 11,qm 20 19,⟨(some (20,false)),(some 21),.mv (.sl 0)⟩,⟨(some (20,false)),(some 22),.nck (.sl 21)⟩,⟨(some (20,false)),(some 23),.fad 0 (.sl 22)⟩,⟨(some (20,false)),(some 24),.load 1 false (.sl 23)⟩,⟨(some (20,false)),(some 25),.mv (.sl 0)⟩,⟨(some (20,false)),(some 26),.nck (.sl 25)⟩,⟨(some (20,false)),(some 27),.fad 1 (.sl 26)⟩,⟨(some (20,false)),(some 28),.load 1 false (.sl 27)⟩,⟨(some (20,false)),(some 29),.sidx (.sl 24) (.sl 28)⟩,⟨(some (20,false)),(some 30),.bin .neq (.sl 29) (.k (.int .u8 64))⟩,qx 31 20 30,qm 32 31,⟨(some (32,false)),(some 33),.mv (.sl 0)⟩,⟨(some (32,false)),(some 34),.nck (.sl 33)⟩,⟨(some (32,false)),(some 35),.fad 0 (.sl 34)⟩,⟨(some (32,false)),(some 36),.load 1 false (.sl 35)⟩,⟨(some (32,false)),(some 37),.mv (.sl 0)⟩,⟨(some (32,false)),(some 38),.nck (.sl 37)⟩,⟨(some (32,false)),(some 39),.fad 1 (.sl 38)⟩,⟨(some (32,false)),(some 40),.load 1 false (.sl 39)⟩,⟨(some (32,false)),(some 41),.bin .add (.sl 40) (.k (.int .i64 5))⟩,⟨(some (32,false)),(some 42),.sidx (.sl 36) (.sl 41)⟩,⟨(some (32,false)),(some 43),.bin .neq (.sl 42) (.k (.int .u8 45))⟩,qx 44 32 43,qm 45 44,⟨(some (45,false)),(some 46),.mv (.sl 0)⟩,⟨(some (45,false)),(some 47),.nck (.sl 46)⟩,⟨(some (45,false)),(some 48),.fad 0 (.sl 47)⟩,⟨(some (45,false)),(some 49),.load 1 false (.sl 48)⟩,⟨(some (45,false)),(some 50),.mv (.sl 0)⟩,⟨(some (45,false)),(some 51),.nck (.sl 50)⟩,⟨(some (45,false)),(some 52),.fad 1 (.sl 51)⟩,⟨(some (45,false)),(some 53),.load 1 false (.sl 52)⟩,⟨(some (45,false)),(some 54),.bin .add (.sl 53) (.k (.int .i64 8))⟩,⟨(some (45,false)),(some 55),.sidx (.sl 49) (.sl 54)⟩,⟨(some (45,false)),(some 56),.bin .neq (.sl 55) (.k (.int .u8 45))⟩,qx 57 45 56]
 (qd 57 (qr [qi 2 0,qc 3 (.bool false)]
 .ret) .skip))
 (qr [qm 58 0,qo 59 (.nck (.sl 58)),qf 60 0 59,ql 61 1 false 60,qm 62 0,qo 63 (.nck (.sl 62)),qf 64 1 63,ql 65 1 false 64,qk 66 .add 65 1,qm 67 0,qo 68 (.nck (.sl 67)),qf 69 1 68,ql 70 1 false 69,qk 71 .add 70 11,qo 72 (.ssl (.sl 61) (some (.sl 66)) (some (.sl 71))),qm 4 72]
 (qr [qm 73 0,qo 74 (.nck (.sl 73)),qf 75 1 74,ql 76 1 false 75,qk 77 .add 76 11,qo 78 (.nck (.sl 73)),qf 79 1 78,qs 1 79 77]
 (qr [qc 5 (.fn 236 [])]
 (qr [qm 80 5,qm 81 4,qo 82 (.ssl (.sl 81) none (some (.k (.int .i64 4)))),qo 83 (.cval (.sl 80) [.sl 82]),qm 84 5,qm 85 4,qo 86 (.ssl (.sl 85) (some (.k (.int .i64 5))) (some (.k (.int .i64 7)))),qo 87 (.cval (.sl 84) [.sl 86]),qm 88 5,qm 89 4,qo 90 (.ssl (.sl 89) (some (.k (.int .i64 8))) none),qo 91 (.cval (.sl 88) [.sl 90]),qm 6 83,qm 7 87,qm 8 91]
 (.seq (qr [qm 92 6,qk 93 .lss 92 1,qm 94 93,⟨(some (94,false)),(some 95),.mv (.sl 7)⟩,⟨(some (94,false)),(some 96),.bin .lss (.sl 95) (.k (.int .i64 1))⟩,qx 97 94 96,qm 98 97,⟨(some (98,false)),(some 99),.mv (.sl 7)⟩,⟨(some (98,false)),(some 100),.bin .gtr (.sl 99) (.k (.int .i64 12))⟩,qx 101 98 100,qm 102 101,⟨(some (102,false)),(some 103),.mv (.sl 8)⟩,⟨(some (102,false)),(some 104),.bin .lss (.sl 103) (.k (.int .i64 1))⟩,qx 105 102 104,qm 106 105,⟨(some (106,false)),(some 107),.mv (.sl 8)⟩,⟨(some (106,false)),(some 108),.mv (.sl 6)⟩,⟨(some (106,false)),(some 109),.mv (.sl 7)⟩,⟨(some (106,false)),(some 110),.call 237 [(.sl 108),(.sl 109)] []⟩,⟨(some (106,false)),(some 111),.bin .gtr (.sl 107) (.sl 110)⟩,qx 112 106 111]
 (qd 112 (qr [qi 2 0,qc 3 (.bool false)]
 .ret) .skip))
 (qr [qm 113 6,qm 114 7,qm 115 8,qo 116 (.call 238 [(.sl 113),(.sl 114),(.sl 115)] []),qm 2 116,qc 3 (.bool true)]
 .ret)))))))),[.tmp 2,.tmp 3],false⟩
def F221:bn:=⟨75,1,(
 qr [qi 2 0,qc 3 (.bool false)]
 (qr [qm 8 0,qo 9 (.nck (.sl 8)),qf 10 1 9,ql 11 1 false 10,qm 4 11]
 (.seq (qr [qm 12 0,qt 13 218 12,qo 14 (.bin .eql (.sl 13) (.k (.int .u8 45)))]
 (qd 14 (.reg [qm 15 0,qo 16 (.nck (.sl 15)),qf 17 1 16,ql 18 1 false 17,qk 19 .add 18 1,qo 20 (.nck (.sl 15)),qf 21 1 20,qs 1 21 19] []) .skip))
 (.seq (.block 0 (.loop (.seq (qr [qm 22 0,qo 23 (.nck (.sl 22)),qf 24 1 23,ql 25 1 false 24,qm 26 0,qo 27 (.nck (.sl 26)),qf 28 0 27,ql 29 1 false 28,qo 30 (.slen (.sl 29)),qb 31 .lss 25 30,qm 32 31,⟨(some (32,true)),(some 33),.mv (.sl 0)⟩,⟨(some (32,true)),(some 34),.nck (.sl 33)⟩,⟨(some (32,true)),(some 35),.fad 0 (.sl 34)⟩,⟨(some (32,true)),(some 36),.load 1 false (.sl 35)⟩,⟨(some (32,true)),(some 37),.mv (.sl 0)⟩,⟨(some (32,true)),(some 38),.nck (.sl 37)⟩,⟨(some (32,true)),(some 39),.fad 1 (.sl 38)⟩,⟨(some (32,true)),(some 40),.load 1 false (.sl 39)⟩,⟨(some (32,true)),(some 41),.sidx (.sl 36) (.sl 40)⟩,⟨(some (32,true)),(some 42),.call 173 [.sl 41] []⟩,qy 43 32 42]
 (qd 43 .skip (.exit 0)))
 (.block 1 (.reg [qm 44 0,qo 45 (.nck (.sl 44)),qf 46 1 45,ql 47 1 false 46,qk 48 .add 47 1,qo 49 (.nck (.sl 44)),qf 50 1 49,qs 1 50 48] [])))))
 (qr [qm 51 0,qo 52 (.nck (.sl 51)),qf 53 0 52,ql 54 1 false 53,qm 55 4,qm 56 0,qo 57 (.nck (.sl 56)),qf 58 1 57,ql 59 1 false 58,qo 60 (.ssl (.sl 54) (some (.sl 55)) (some (.sl 59))),qm 5 60]
 (qr [qm 62 5,qo 63 (.call 239 [(.sl 62),(.k (.int .i64 10)),(.k (.int .i64 64))] []),qm 61 63,qo 64 (.ext (.sl 61) 0),qo 65 (.ext (.sl 61) 1),qm 6 64,qm 7 65]
 (.seq (qr [qm 66 7,qo 67 (.isnil true (.sl 66)),qm 68 67,⟨(some (68,false)),(some 69),.mv (.sl 6)⟩,⟨(some (68,false)),(some 70),.call 135 [(.sl 69),(.k (.int .i64 10))] []⟩,⟨(some (68,false)),(some 71),.mv (.sl 5)⟩,⟨(some (68,false)),(some 72),.bin .neq (.sl 70) (.sl 71)⟩,qx 73 68 72]
 (qd 73 (qr [qi 2 0,qc 3 (.bool false)]
 .ret) .skip))
 (qr [qm 74 6,qm 2 74,qc 3 (.bool true)]
 .ret)))))))),[.tmp 2,.tmp 3],false⟩
def F222:bn:=⟨59,1,(
 qr [qo 2 (.alloc [(.int .i64 0),(.int .i64 0),(.int .i64 0),(.str ⟨#[]⟩),qN,qN]),qc 3 (.bool false)]
 (.seq (qr [qm 9 0,qo 10 (.call 226 [(.sl 9),(.k (.str ⟨#[40]⟩))] []),qo 11 (.un .not (.sl 10))]
 (qd 11 (qr [qo 12 (.build [(.int .i64 0),(.int .i64 0),(.int .i64 0),(.str ⟨#[]⟩),qN,qN] []),qs 6 2 12,qc 3 (.bool false)]
 .ret) .skip))
 (qr [qm 14 0,qt 15 221 14,qm 13 15,qo 16 (.ext (.sl 13) 0),qo 17 (.ext (.sl 13) 1),qm 4 16,qm 5 17]
 (qr [qm 18 0,qo 19 (.call 226 [(.sl 18),(.k (.str ⟨#[32]⟩))] []),qm 6 19]
 (.seq (qr [qm 20 5,qo 21 (.un .not (.sl 20)),qm 22 21,⟨(some (22,false)),(some 23),.mv (.sl 6)⟩,⟨(some (22,false)),(some 24),.un .not (.sl 23)⟩,qx 25 22 24]
 (qd 25 (qr [qo 26 (.build [(.int .i64 0),(.int .i64 0),(.int .i64 0),(.str ⟨#[]⟩),qN,qN] []),qs 6 2 26,qc 3 (.bool false)]
 .ret) .skip))
 (qr [qm 28 0,qt 29 221 28,qm 27 29,qo 30 (.ext (.sl 27) 0),qo 31 (.ext (.sl 27) 1),qm 7 30,qm 8 31]
 (.seq (qr [qm 32 8,qo 33 (.un .not (.sl 32)),qm 34 33,⟨(some (34,false)),(some 35),.mv (.sl 0)⟩,⟨(some (34,false)),(some 36),.call 226 [(.sl 35),(.k (.str ⟨#[41]⟩))] []⟩,⟨(some (34,false)),(some 37),.un .not (.sl 36)⟩,qx 38 34 37,qm 39 38,⟨(some (39,false)),(some 40),.mv (.sl 4)⟩,⟨(some (39,false)),(some 41),.bin .lss (.sl 40) (.k (.int .i64 (-1000000)))⟩,qx 42 39 41,qm 43 42,⟨(some (43,false)),(some 44),.mv (.sl 4)⟩,⟨(some (43,false)),(some 45),.bin .gtr (.sl 44) (.k (.int .i64 1000000))⟩,qx 46 43 45,qm 47 46,⟨(some (47,false)),(some 48),.mv (.sl 7)⟩,⟨(some (47,false)),(some 49),.bin .lss (.sl 48) (.k (.int .i64 (-1000000)))⟩,qx 50 47 49,qm 51 50,⟨(some (51,false)),(some 52),.mv (.sl 7)⟩,⟨(some (51,false)),(some 53),.bin .gtr (.sl 52) (.k (.int .i64 1000000))⟩,qx 54 51 53]
 (qd 54 (qr [qo 55 (.build [(.int .i64 0),(.int .i64 0),(.int .i64 0),(.str ⟨#[]⟩),qN,qN] []),qs 6 2 55,qc 3 (.bool false)]
 .ret) .skip))
 (qr [qm 56 4,qm 57 7,qo 58 (.build [(.int .i64 0),(.int .i64 0),(.int .i64 0),(.str ⟨#[]⟩),qN,qN] [(0,1,(.k (.int .i64 5))),(1,1,(.sl 56)),(2,1,(.sl 57))]),qs 6 2 58,qc 3 (.bool true)]
 .ret)))))))),[.cell 2 6 true,.tmp 3],false⟩
def F223:bn:=⟨44,1,(
 qr [qo 4 (.alloc [(.int .i64 0),(.int .i64 0),(.int .i64 0),(.str ⟨#[]⟩),qN,qN]),qc 5 (.bool false)]
 (qr [qo 9 (.build [(.int .i64 0),(.int .i64 0),(.int .i64 0),(.str ⟨#[]⟩),qN,qN] [(0,1,(.k (.int .i64 6)))]),qo 6 (.alloc [(.int .i64 0),(.int .i64 0),(.int .i64 0),(.str ⟨#[]⟩),qN,qN]),qs 6 6 9]
 (.seq (qr [qm 10 0,qo 11 (.call 226 [(.sl 10),(.k (.str ⟨#[91]⟩))] []),qo 12 (.un .not (.sl 11)),qm 13 12,⟨(some (13,false)),(some 14),.mv (.sl 1)⟩,⟨(some (13,false)),(some 15),.bin .eql (.sl 14) (.k (.int .i64 5))⟩,qx 16 13 15]
 (qd 16 (qr [ql 17 6 true 6,qs 6 4 17,qc 5 (.bool false)]
 .ret) .skip))
 (.seq (qr [qm 18 0,qo 19 (.call 226 [(.sl 18),(.k (.str ⟨#[93]⟩))] [])]
 (qd 19 (qr [ql 20 6 true 6,qs 6 4 20,qc 5 (.bool true)]
 .ret) .skip))
 (.block 0 (.loop (.block 1 (qr [qm 22 0,qm 23 1,qk 24 .add 23 1,qu 25 201 22 24,qm 21 25,qo 26 (.ext (.sl 21) 0),qo 27 (.ext (.sl 21) 1),qo 7 (.alloc [(.int .i64 0),(.int .i64 0),(.int .i64 0),(.str ⟨#[]⟩),qN,qN]),qs 6 7 26,qm 8 27]
 (.seq (qr [qm 28 8,qo 29 (.un .not (.sl 28))]
 (qd 29 (qr [ql 30 6 true 6,qs 6 4 30,qc 5 (.bool false)]
 .ret) .skip))
 (qr [qf 31 5 6,ql 32 1 false 31,ql 33 6 true 7,qo 34 (.bsl 204 6 [(.int .i64 0),(.int .i64 0),(.int .i64 0),(.str ⟨#[]⟩),qN,qN] 1 [(0,6,(.sl 33))]),qo 35 (.app 204 6 88 (.sl 32) (.sl 34)),qf 36 5 6,qs 1 36 35]
 (.seq (qr [qm 37 0,qo 38 (.call 226 [(.sl 37),(.k (.str ⟨#[93]⟩))] [])]
 (qd 38 (qr [ql 39 6 true 6,qs 6 4 39,qc 5 (.bool true)]
 .ret) .skip))
 (qr [qm 40 0,qo 41 (.call 226 [(.sl 40),(.k (.str ⟨#[44]⟩))] []),qo 42 (.un .not (.sl 41))]
 (qd 42 (qr [ql 43 6 true 6,qs 6 4 43,qc 5 (.bool false)]
 .ret) .skip))))))))))))),[.cell 4 6 true,.tmp 5],false⟩
def F224:bn:=⟨82,1,(
 qr [qo 4 (.alloc [(.int .i64 0),(.int .i64 0),(.int .i64 0),(.str ⟨#[]⟩),qN,qN]),qc 5 (.bool false)]
 (qr [qo 10 (.build [(.int .i64 0),(.int .i64 0),(.int .i64 0),(.str ⟨#[]⟩),qN,qN] [(0,1,(.k (.int .i64 7)))]),qo 6 (.alloc [(.int .i64 0),(.int .i64 0),(.int .i64 0),(.str ⟨#[]⟩),qN,qN]),qs 6 6 10]
 (.seq (qr [qm 11 0,qo 12 (.call 226 [(.sl 11),(.k (.str ⟨#[123]⟩))] []),qo 13 (.un .not (.sl 12)),qm 14 13,⟨(some (14,false)),(some 15),.mv (.sl 1)⟩,⟨(some (14,false)),(some 16),.bin .eql (.sl 15) (.k (.int .i64 5))⟩,qx 17 14 16]
 (qd 17 (qr [ql 18 6 true 6,qs 6 4 18,qc 5 (.bool false)]
 .ret) .skip))
 (.seq (qr [qm 19 0,qo 20 (.call 226 [(.sl 19),(.k (.str ⟨#[125]⟩))] [])]
 (qd 20 (qr [ql 21 6 true 6,qs 6 4 21,qc 5 (.bool true)]
 .ret) .skip))
 (.block 0 (.loop (.block 1 (qr [qm 23 0,qt 24 240 23,qm 22 24,qo 25 (.ext (.sl 22) 0),qo 26 (.ext (.sl 22) 1),qm 7 25,qm 8 26]
 (.seq (qr [qm 27 8,qo 28 (.un .not (.sl 27)),qm 29 28,⟨(some (29,false)),(some 30),.mv (.sl 0)⟩,⟨(some (29,false)),(some 31),.call 226 [(.sl 30),(.k (.str ⟨#[58]⟩))] []⟩,⟨(some (29,false)),(some 32),.un .not (.sl 31)⟩,qx 33 29 32,qm 34 33,⟨(some (34,false)),(some 35),.fad 4 (.sl 6)⟩,⟨(some (34,false)),(some 36),.load 1 false (.sl 35)⟩,⟨(some (34,false)),(some 37),.len (.sl 36)⟩,⟨(some (34,false)),(some 38),.bin .gtr (.sl 37) (.k (.int .i64 0))⟩,⟨(some (34,false)),(some 39),.mv (.sl 38)⟩,⟨(some (39,true)),(some 40),.fad 4 (.sl 6)⟩,⟨(some (39,true)),(some 41),.load 1 false (.sl 40)⟩,⟨(some (39,true)),(some 42),.fad 4 (.sl 6)⟩,⟨(some (39,true)),(some 43),.load 1 false (.sl 42)⟩,⟨(some (39,true)),(some 44),.len (.sl 43)⟩,⟨(some (39,true)),(some 45),.bin .sub (.sl 44) (.k (.int .i64 1))⟩,⟨(some (39,true)),(some 46),.iad 1 (.sl 41) (.sl 45)⟩,⟨(some (39,true)),(some 47),.load 1 false (.sl 46)⟩,⟨(some (39,true)),(some 48),.mv (.sl 7)⟩,⟨(some (39,true)),(some 49),.bin .geq (.sl 47) (.sl 48)⟩,⟨(some (34,false)),(some 50),.pick (.sl 39) (.sl 49) (.k (.bool false))⟩,qx 51 34 50]
 (qd 51 (qr [ql 52 6 true 6,qs 6 4 52,qc 5 (.bool false)]
 .ret) .skip))
 (qr [qm 54 0,qm 55 1,qk 56 .add 55 1,qu 57 201 54 56,qm 53 57,qo 58 (.ext (.sl 53) 0),qo 59 (.ext (.sl 53) 1),qo 9 (.alloc [(.int .i64 0),(.int .i64 0),(.int .i64 0),(.str ⟨#[]⟩),qN,qN]),qs 6 9 58,qm 8 59]
 (.seq (qr [qm 60 8,qo 61 (.un .not (.sl 60))]
 (qd 61 (qr [ql 62 6 true 6,qs 6 4 62,qc 5 (.bool false)]
 .ret) .skip))
 (qr [qf 63 4 6,ql 64 1 false 63,qm 65 7,qo 66 (.bsl 9 1 [(.str ⟨#[]⟩)] 1 [(0,1,(.sl 65))]),qo 67 (.app 9 1 16 (.sl 64) (.sl 66)),qf 68 4 6,qs 1 68 67]
 (qr [qf 69 5 6,ql 70 1 false 69,ql 71 6 true 9,qo 72 (.bsl 204 6 [(.int .i64 0),(.int .i64 0),(.int .i64 0),(.str ⟨#[]⟩),qN,qN] 1 [(0,6,(.sl 71))]),qo 73 (.app 204 6 88 (.sl 70) (.sl 72)),qf 74 5 6,qs 1 74 73]
 (.seq (qr [qm 75 0,qo 76 (.call 226 [(.sl 75),(.k (.str ⟨#[125]⟩))] [])]
 (qd 76 (qr [ql 77 6 true 6,qs 6 4 77,qc 5 (.bool true)]
 .ret) .skip))
 (qr [qm 78 0,qo 79 (.call 226 [(.sl 78),(.k (.str ⟨#[44]⟩))] []),qo 80 (.un .not (.sl 79))]
 (qd 80 (qr [ql 81 6 true 6,qs 6 4 81,qc 5 (.bool false)]
 .ret) .skip)))))))))))))))),[.cell 4 6 true,.tmp 5],false⟩
def F225:bn:=⟨46,1,(
 qr [qo 2 (.alloc [(.int .i64 0),(.int .i64 0),(.int .i64 0),(.str ⟨#[]⟩),qN,qN]),qc 3 (.bool false)]
 (qr [qo 8 (.build [(.int .i64 0),(.int .i64 0),(.int .i64 0),(.str ⟨#[]⟩),qN,qN] [(0,1,(.k (.int .i64 10)))]),qo 4 (.alloc [(.int .i64 0),(.int .i64 0),(.int .i64 0),(.str ⟨#[]⟩),qN,qN]),qs 6 4 8]
 (.seq (qr [qm 9 0,qo 10 (.call 226 [(.sl 9),(.k (.str ⟨#[60]⟩))] []),qo 11 (.un .not (.sl 10))]
 (qd 11 (qr [ql 12 6 true 4,qs 6 2 12,qc 3 (.bool false)]
 .ret) .skip))
 (qr [qi 5 8]
 (.block 0 (.loop (.block 1 (qr [qm 14 0,qt 15 227 14,qm 13 15,qo 16 (.ext (.sl 13) 0),qo 17 (.ext (.sl 13) 1),qo 6 (.alloc [(.int .i64 0),(.int .i64 0),(.int .i64 0),(.str ⟨#[]⟩),qN,qN]),qs 6 6 16,qm 7 17]
 (.seq (qr [qm 18 7,qo 19 (.un .not (.sl 18)),qm 20 19,⟨(some (20,false)),(some 21),.fad 0 (.sl 6)⟩,⟨(some (20,false)),(some 22),.load 1 false (.sl 21)⟩,⟨(some (20,false)),(some 23),.mv (.sl 5)⟩,⟨(some (20,false)),(some 24),.bin .neq (.sl 22) (.sl 23)⟩,qx 25 20 24]
 (qd 25 (qr [ql 26 6 true 4,qs 6 2 26,qc 3 (.bool false)]
 .ret) .skip))
 (qr [qf 27 5 4,ql 28 1 false 27,ql 29 6 true 6,qo 30 (.bsl 204 6 [(.int .i64 0),(.int .i64 0),(.int .i64 0),(.str ⟨#[]⟩),qN,qN] 1 [(0,6,(.sl 29))]),qo 31 (.app 204 6 88 (.sl 28) (.sl 30)),qf 32 5 4,qs 1 32 31]
 (.seq (qr [qm 33 5,qk 34 .eql 33 8,qm 35 34,⟨(some (35,true)),(some 36),.mv (.sl 0)⟩,⟨(some (35,true)),(some 37),.call 226 [(.sl 36),(.k (.str ⟨#[62]⟩))] []⟩,qy 38 35 37]
 (qd 38 (qr [ql 39 6 true 4,qs 6 2 39,qc 3 (.bool true)]
 .ret) .skip))
 (.seq (qr [qm 40 0,qo 41 (.call 226 [(.sl 40),(.k (.str ⟨#[32]⟩))] []),qo 42 (.un .not (.sl 41))]
 (qd 42 (qr [ql 43 6 true 4,qs 6 2 43,qc 3 (.bool false)]
 .ret) .skip))
 (.reg [qm 44 5,qo 45 (.bin .sub (.k (.int .i64 17)) (.sl 44)),qm 5 45] []))))))))))))),[.cell 2 6 true,.tmp 3],false⟩
def F226:bn:=⟨25,1,(
 qr [qc 4 (.bool false)]
 (.seq (qr [qm 5 0,qo 6 (.nck (.sl 5)),qf 7 0 6,ql 8 1 false 7,qm 9 0,qo 10 (.nck (.sl 9)),qf 11 1 10,ql 12 1 false 11,qo 13 (.ssl (.sl 8) (some (.sl 12)) none),qm 14 1,qu 15 241 13 14]
 (qd 15 (qr [qm 16 0,qo 17 (.nck (.sl 16)),qf 18 1 17,ql 19 1 false 18,qm 20 1,qo 21 (.slen (.sl 20)),qb 22 .add 19 21,qo 23 (.nck (.sl 16)),qf 24 1 23,qs 1 24 22]
 (qr [qc 4 (.bool true)]
 .ret)) .skip))
 (qr [qc 4 (.bool false)]
 .ret))),[.tmp 4],false⟩
def F227:bn:=⟨30,1,(
 qr [qo 2 (.alloc [(.int .i64 0),(.int .i64 0),(.int .i64 0),(.str ⟨#[]⟩),qN,qN]),qc 3 (.bool false)]
 (qr [qi 4 8]
 (.seq (qr [qm 7 0,qt 8 218 7,qo 9 (.bin .eql (.sl 8) (.k (.int .u8 101)))]
 (qd 9 (.reg [qi 4 9] []) (qr [qm 10 0,qt 11 218 10,qo 12 (.bin .neq (.sl 11) (.k (.int .u8 110)))]
 (qd 12 (qr [qo 13 (.build [(.int .i64 0),(.int .i64 0),(.int .i64 0),(.str ⟨#[]⟩),qN,qN] []),qs 6 2 13,qc 3 (.bool false)]
 .ret) .skip))))
 (qr [qm 14 0,qo 15 (.nck (.sl 14)),qf 16 1 15,ql 17 1 false 16,qk 18 .add 17 1,qo 19 (.nck (.sl 14)),qf 20 1 19,qs 1 20 18]
 (qr [qm 22 0,qt 23 242 22,qm 21 23,qo 24 (.ext (.sl 21) 0),qo 25 (.ext (.sl 21) 1),qm 5 24,qm 6 25]
 (qr [qm 26 4,qm 27 5,qo 28 (.build [(.int .i64 0),(.int .i64 0),(.int .i64 0),(.str ⟨#[]⟩),qN,qN] [(0,1,(.sl 26)),(1,1,(.sl 27))]),qm 29 6,qs 6 2 28,qm 3 29]
 .ret)))))),[.cell 2 6 true,.tmp 3],false⟩
def F236:bn:=⟨25,0,(
 qr [qi 2 0]
 (qr [qi 3 0]
 (.seq (qr [qm 5 0,qo 6 (.slen (.sl 5)),qi 7 0]
 (.block 0 (.loop (qr [qb 8 .lss 7 6]
 (.seq (qd 8 .skip (.exit 0))
 (.seq (.block 1 (qr [qm 9 7,qm 4 9]
 (qg [qm 10 0,qm 11 4,qo 12 (.sidx (.sl 10) (.sl 11)),qt 13 173 12,qo 14 (.un .not (.sl 13))] 14 (qi 2 (-1))
 (.reg [qm 15 3,qk 16 .mul 15 10,qm 17 0,qm 18 4,qo 19 (.sidx (.sl 17) (.sl 18)),qo 20 (.bin .sub (.sl 19) (.k (.int .u8 48))),qo 21 (.toInt .i64 (.sl 20)),qb 22 .add 16 21,qm 3 22] []))))
 (.reg [qk 23 .add 7 1,qm 7 23] [])))))))
 (qr [qm 24 3,qm 2 24]
 .ret)))),[.tmp 2],false⟩
def F237:bn:=⟨15,0,(
 qr [qi 4 0]
 (.seq (qr [qm 5 1]
 (.block 0 (qr [qk 7 .eql 5 2,qm 6 7]
 (qd 6 (qg [qm 8 0,qt 9 245 8] 9 (qi 4 29)
 (qr [qi 4 28]
 .ret)) (.seq (qr [qk 11 .eql 5 4,qm 10 11]
 (qd 10 .skip (qr [qk 12 .eql 5 6,qm 10 12]
 (qd 10 .skip (qr [qk 13 .eql 5 9,qm 10 13]
 (qd 10 .skip (.reg [qk 14 .eql 5 11,qm 10 14] [])))))))
 (qd 10 (qr [qi 4 30]
 .ret) .skip))))))
 (qr [qi 4 31]
 .ret))),[.tmp 4],false⟩
def F238:bn:=⟨37,0,(
 qr [qi 6 0]
 (qr [qm 10 0,qk 11 .sub 10 1,qm 7 11]
 (qr [qm 12 7,qk 13 .mul 12 365,qm 14 7,qk 15 .quo 14 4,qb 16 .add 13 15,qm 17 7,qk 18 .quo 17 100,qb 19 .sub 16 18,qm 20 7,qk 21 .quo 20 400,qb 22 .add 19 21,qm 8 22]
 (.seq (qr [qi 9 1]
 (.block 0 (.loop (.seq (qr [qm 23 9,qm 24 1,qb 25 .lss 23 24]
 (qd 25 .skip (.exit 0)))
 (.seq (.block 1 (.reg [qm 28 8,qm 29 0,qm 30 9,qu 31 237 29 30,qb 32 .add 28 31,qm 8 32] []))
 (.reg [qm 26 9,qk 27 .add 26 1,qm 9 27] []))))))
 (qr [qm 33 8,qm 34 2,qb 35 .add 33 34,qk 36 .sub 35 1,qm 6 36]
 .ret))))),[.tmp 6],false⟩
def F240:bn:=⟨83,1,(
 qr [qc 2 (.str ⟨#[]⟩),qc 3 (.bool false)]
 (qr [qm 5 0,qo 6 (.nck (.sl 5)),qf 7 1 6,ql 8 1 false 7,qm 4 8]
 (.seq (.block 0 (.loop (.seq (qr [qm 9 0,qo 10 (.nck (.sl 9)),qf 11 1 10,ql 12 1 false 11,qm 13 0,qo 14 (.nck (.sl 13)),qf 15 0 14,ql 16 1 false 15,qo 17 (.slen (.sl 16)),qb 18 .lss 12 17,qm 19 18,⟨(some (19,true)),(some 20),.mv (.sl 0)⟩,⟨(some (19,true)),(some 21),.nck (.sl 20)⟩,⟨(some (19,true)),(some 22),.fad 0 (.sl 21)⟩,⟨(some (19,true)),(some 23),.load 1 false (.sl 22)⟩,⟨(some (19,true)),(some 24),.mv (.sl 0)⟩,⟨(some (19,true)),(some 25),.nck (.sl 24)⟩,⟨(some (19,true)),(some 26),.fad 1 (.sl 25)⟩,⟨(some (19,true)),(some 27),.load 1 false (.sl 26)⟩,⟨(some (19,true)),(some 28),.sidx (.sl 23) (.sl 27)⟩,⟨(some (19,true)),(some 29),.call 172 [.sl 28] []⟩,⟨(some (19,true)),(some 30),.mv (.sl 29)⟩,⟨(some (30,false)),(some 31),.mv (.sl 0)⟩,⟨(some (30,false)),(some 32),.nck (.sl 31)⟩,⟨(some (30,false)),(some 33),.fad 0 (.sl 32)⟩,⟨(some (30,false)),(some 34),.load 1 false (.sl 33)⟩,⟨(some (30,false)),(some 35),.mv (.sl 0)⟩,⟨(some (30,false)),(some 36),.nck (.sl 35)⟩,⟨(some (30,false)),(some 37),.fad 1 (.sl 36)⟩,⟨(some (30,false)),(some 38),.load 1 false (.sl 37)⟩,⟨(some (30,false)),(some 39),.sidx (.sl 34) (.sl 38)⟩,⟨(some (30,false)),(some 40),.call 173 [.sl 39] []⟩,⟨(some (19,true)),(some 41),.pick (.sl 30) (.k (.bool true)) (.sl 40)⟩,⟨(some (19,true)),(some 42),.mv (.sl 41)⟩,⟨(some (42,false)),(some 43),.mv (.sl 0)⟩,⟨(some (42,false)),(some 44),.nck (.sl 43)⟩,⟨(some (42,false)),(some 45),.fad 0 (.sl 44)⟩,⟨(some (42,false)),(some 46),.load 1 false (.sl 45)⟩,⟨(some (42,false)),(some 47),.mv (.sl 0)⟩,⟨(some (42,false)),(some 48),.nck (.sl 47)⟩,⟨(some (42,false)),(some 49),.fad 1 (.sl 48)⟩,⟨(some (42,false)),(some 50),.load 1 false (.sl 49)⟩,⟨(some (42,false)),(some 51),.sidx (.sl 46) (.sl 50)⟩,⟨(some (42,false)),(some 52),.bin .eql (.sl 51) (.k (.int .u8 95))⟩,⟨(some (19,true)),(some 53),.pick (.sl 42) (.k (.bool true)) (.sl 52)⟩,qy 54 19 53]
 (qd 54 .skip (.exit 0)))
 (.block 1 (.reg [qm 55 0,qo 56 (.nck (.sl 55)),qf 57 1 56,ql 58 1 false 57,qk 59 .add 58 1,qo 60 (.nck (.sl 55)),qf 61 1 60,qs 1 61 59] [])))))
 (.seq (.reg [qm 62 0,qo 63 (.nck (.sl 62)),qf 64 0 63,ql 65 1 false 64,qm 66 4,qm 67 0,qo 68 (.nck (.sl 67)),qf 69 1 68,ql 70 1 false 69,qo 71 (.ssl (.sl 65) (some (.sl 66)) (some (.sl 70))),qm 72 0,qo 73 (.nck (.sl 72)),qf 74 0 73,ql 75 1 false 74,qm 76 4,qm 77 0,qo 78 (.nck (.sl 77)),qf 79 1 78,ql 80 1 false 79,qo 81 (.ssl (.sl 75) (some (.sl 76)) (some (.sl 80))),qt 82 127 81,qm 2 71,qm 3 82] [(3,20),(8,20)])
 .ret)))),[.tmp 2,.tmp 3],false⟩
def F241:bn:=⟨8,0,(
 qr [qc 4 (.bool false)]
 (qr [qm 5 0,qm 6 1,qu 7 248 5 6,qm 4 7]
 .ret)),[.tmp 4],false⟩
def F242:bn:=⟨25,1,(
 qr [qi 2 0,qc 3 (.bool false)]
 (.seq (qr [qm 6 0,qt 7 218 6,qt 8 173 7,qo 9 (.un .not (.sl 8))]
 (qd 9 (qr [qi 2 0,qc 3 (.bool false)]
 .ret) .skip))
 (qr [qm 11 0,qt 12 221 11,qm 10 12,qo 13 (.ext (.sl 10) 0),qo 14 (.ext (.sl 10) 1),qm 4 13,qm 5 14]
 (qr [qm 15 4,qm 16 5,qm 17 16,⟨(some (17,true)),(some 18),.mv (.sl 4)⟩,⟨(some (17,true)),(some 19),.bin .geq (.sl 18) (.k (.int .i64 1))⟩,qy 20 17 19,qm 21 20,⟨(some (21,true)),(some 22),.mv (.sl 4)⟩,⟨(some (21,true)),(some 23),.bin .leq (.sl 22) (.k (.int .i64 1000000000000))⟩,qy 24 21 23,qm 2 15,qm 3 24]
 .ret)))),[.tmp 2,.tmp 3],false⟩
def F245:bn:=⟨16,0,(
 qr [qc 2 (.bool false)]
 (qr [qm 3 0,qk 4 .rem 3 4,qk 5 .eql 4 0,qm 6 5,⟨(some (6,true)),(some 7),.mv (.sl 0)⟩,⟨(some (6,true)),(some 8),.bin .rem (.sl 7) (.k (.int .i64 100))⟩,⟨(some (6,true)),(some 9),.bin .neq (.sl 8) (.k (.int .i64 0))⟩,⟨(some (6,true)),(some 10),.mv (.sl 9)⟩,⟨(some (10,false)),(some 11),.mv (.sl 0)⟩,⟨(some (10,false)),(some 12),.bin .rem (.sl 11) (.k (.int .i64 400))⟩,⟨(some (10,false)),(some 13),.bin .eql (.sl 12) (.k (.int .i64 0))⟩,⟨(some (6,true)),(some 14),.pick (.sl 10) (.k (.bool true)) (.sl 13)⟩,qy 15 6 14,qm 2 15]
 .ret)),[.tmp 2],false⟩
def F248:bn:=⟨18,0,(
 qr [qc 4 (.bool false)]
 (qr [qm 5 0,qo 6 (.slen (.sl 5)),qm 7 1,qo 8 (.slen (.sl 7)),qb 9 .geq 6 8,qm 10 9,⟨(some (10,true)),(some 11),.mv (.sl 0)⟩,⟨(some (10,true)),(some 12),.mv (.sl 1)⟩,⟨(some (10,true)),(some 13),.slen (.sl 12)⟩,⟨(some (10,true)),(some 14),.ssl (.sl 11) none (some (.sl 13))⟩,⟨(some (10,true)),(some 15),.mv (.sl 1)⟩,⟨(some (10,true)),(some 16),.bin .eql (.sl 14) (.sl 15)⟩,qy 17 10 16,qm 4 17]
 .ret)),[.tmp 4],false⟩
def FB15:bn:=⟨27,0,(
 qr [qi 4 0]
 (.seq (qr [qi 5 0]
 (.block 0 (.loop (.seq (qr [qm 6 5,qm 7 0,qn 8 7,qb 9 .lss 6 8]
 (qd 9 .skip (.exit 0)))
 (.seq (.block 1 (qr [qm 12 0,qm 13 5,qa 14 2 12 13,qf 15 0 14,ql 16 1 false 15,qm 17 1,qo 18 (.callU 50 [(.sl 16),(.sl 17)]),qm 1 18]
 (.reg [qm 19 0,qm 20 5,qa 21 2 19 20,qf 22 1 21,ql 23 1 false 22,qm 24 1,qo 25 (.callU 51 [(.sl 23),(.sl 24)]),qm 1 25] [])))
 (.reg [qm 10 5,qk 11 .add 10 1,qm 5 11] []))))))
 (qr [qm 26 1,qm 4 26]
 .ret))),[.tmp 4,.tmp 0],true⟩
def FB50:bn:=⟨34,0,(
 qr [qi 4 0]
 (.seq (qr [qi 5 0]
 (.block 0 (.loop (.seq (qr [qm 6 5,qm 7 0,qn 8 7,qb 9 .lss 6 8]
 (qd 9 .skip (.exit 0)))
 (.seq (.block 1 (qr [qm 12 0,qm 13 5,qm 14 1,qa 15 3 12 13,qf 16 0 15,qe (.stx 1 (.sl 16) (.sl 14))]
 (qr [qm 17 1,qk 18 .add 17 1,qm 1 18]
 (qr [qm 19 0,qm 20 5,qa 21 3 19 20,qf 22 1 21,ql 23 1 false 22,qm 24 1,qo 25 (.callU 57 [(.sl 23),(.sl 24)]),qm 1 25]
 (.reg [qm 26 0,qm 27 5,qa 28 3 26 27,qf 29 2 28,ql 30 1 false 29,qm 31 1,qo 32 (.callU 58 [(.sl 30),(.sl 31)]),qm 1 32] [])))))
 (.reg [qm 10 5,qk 11 .add 10 1,qm 5 11] []))))))
 (qr [qm 33 1,qm 4 33]
 .ret))),[.tmp 4,.tmp 0],true⟩
def FB51:bn:=⟨49,0,(
 qr [qi 4 0]
 (.seq (qr [qi 5 0]
 (.block 0 (.loop (.seq (qr [qm 6 5,qm 7 0,qn 8 7,qb 9 .lss 6 8]
 (qd 9 .skip (.exit 0)))
 (.seq (.block 1 (qr [qm 12 0,qm 13 5,qm 14 1,qa 15 5 12 13,qf 16 0 15,qe (.stx 1 (.sl 16) (.sl 14))]
 (qr [qm 17 1,qk 18 .add 17 1,qm 1 18]
 (qr [qm 19 0,qm 20 5,qm 21 1,qt 22 59 21,qa 23 5 19 20,qf 24 1 23,qe (.stx 1 (.sl 24) (.sl 22))]
 (qr [qm 25 1,qk 26 .add 25 1,qm 1 26]
 (qr [qm 27 0,qm 28 5,qm 29 1,qa 30 5 27 28,qf 31 2 30,qe (.stx 1 (.sl 31) (.sl 29))]
 (qr [qm 32 1,qk 33 .add 32 1,qm 1 33]
 (qr [qm 34 0,qm 35 5,qm 36 1,qa 37 5 34 35,qf 38 3 37,qe (.stx 1 (.sl 38) (.sl 36))]
 (qr [qm 39 1,qk 40 .add 39 1,qm 1 40]
 (.reg [qm 41 0,qm 42 5,qa 43 5 41 42,qf 44 4 43,ql 45 1 false 44,qm 46 1,qo 47 (.callU 58 [(.sl 45),(.sl 46)]),qm 1 47] []))))))))))
 (.reg [qm 10 5,qk 11 .add 10 1,qm 5 11] []))))))
 (qr [qm 48 1,qm 4 48]
 .ret))),[.tmp 4,.tmp 0],true⟩
def FB57:bn:=⟨20,0,(
 qr [qi 4 0]
 (.seq (qr [qi 5 0]
 (.block 0 (.loop (.seq (qr [qm 6 5,qm 7 0,qn 8 7,qb 9 .lss 6 8]
 (qd 9 .skip (.exit 0)))
 (.seq (.block 1 (qr [qm 12 0,qm 13 5,qm 14 1,qt 15 59 14,qa 16 1 12 13,qe (.stx 1 (.sl 16) (.sl 15))]
 (.reg [qm 17 1,qk 18 .add 17 1,qm 1 18] [])))
 (.reg [qm 10 5,qk 11 .add 10 1,qm 5 11] []))))))
 (qr [qm 19 1,qm 4 19]
 .ret))),[.tmp 4,.tmp 0],true⟩
def FB58:bn:=⟨29,0,(
 qr [qi 4 0]
 (.seq (qr [qi 5 0]
 (.block 0 (.loop (.seq (qr [qm 6 5,qm 7 0,qn 8 7,qb 9 .lss 6 8]
 (qd 9 .skip (.exit 0)))
 (.seq (.block 1 (qr [qm 12 0,qm 13 5,qm 14 1,qt 15 59 14,qa 16 2 12 13,qf 17 0 16,qe (.stx 1 (.sl 17) (.sl 15))]
 (qr [qm 18 1,qk 19 .add 18 1,qm 1 19]
 (qr [qm 20 0,qm 21 5,qm 22 1,qt 23 59 22,qa 24 2 20 21,qf 25 1 24,qe (.stx 1 (.sl 25) (.sl 23))]
 (.reg [qm 26 1,qk 27 .add 26 1,qm 1 27] [])))))
 (.reg [qm 10 5,qk 11 .add 10 1,qm 5 11] []))))))
 (qr [qm 28 1,qm 4 28]
 .ret))),[.tmp 4,.tmp 0],true⟩
def FB14:bn:=⟨14,0,(
 qr [qo 2 (.box 2 (.sl 0)),qi 4 0]
 (qr [qf 5 0 2,ql 6 1 false 5,qm 7 1,qo 8 (.callU 50 [(.sl 6),(.sl 7)]),qm 1 8]
 (qr [qf 9 1 2,ql 10 1 false 9,qm 11 1,qo 12 (.callU 51 [(.sl 10),(.sl 11)]),qm 1 12]
 (qr [qm 13 1,qm 4 13]
 .ret)))),[.tmp 4,.tmp 0],true⟩
def F74:bn:=⟨18,0,(
 qr [qo 2 (.box 2 (.sl 0)),qi 4 0]
 (qr [qf 5 0 2,ql 6 1 false 5,qm 7 1,qu 8 52 6 7,qm 1 8]
 (qg [qm 9 1,qk 10 .lss 9 0] 10 (qi 4 (-1))
 (qr [qf 11 1 2,ql 12 1 false 11,qm 13 1,qu 14 53 12 13,qm 1 14]
 (qg [qm 15 1,qk 16 .lss 15 0] 16 (qi 4 (-1))
 (qr [qm 17 1,qm 4 17]
 .ret)))))),[.tmp 4],false⟩
def F63:bn:=⟨50,0,(
 qr [qo 2 (.box 2 (.sl 0)),qo 3 (.box 3 (.sl 1)),qo 4 (.alloc [qN,qN])]
 (qr [qo 8 (.bsl 72 3 [(.int .i64 0),qN,qN] 0 []),qm 5 8]
 (qr [qc 6 (.bool false)]
 (.seq (qr [qi 7 0]
 (.block 0 (.loop (.seq (qr [qm 9 7,qf 10 0 2,ql 11 1 false 10,qn 12 11,qb 13 .lss 9 12]
 (qd 13 .skip (.exit 0)))
 (.seq (.block 1 (.seq (qr [qm 16 6,qo 17 (.un .not (.sl 16)),qm 18 17,⟨(some (18,true)),(some 19),.fad 0 (.sl 2)⟩,⟨(some (18,true)),(some 20),.load 1 false (.sl 19)⟩,⟨(some (18,true)),(some 21),.mv (.sl 7)⟩,⟨(some (18,true)),(some 22),.iad 3 (.sl 20) (.sl 21)⟩,⟨(some (18,true)),(some 23),.fad 0 (.sl 22)⟩,⟨(some (18,true)),(some 24),.load 1 false (.sl 23)⟩,⟨(some (18,true)),(some 25),.fad 0 (.sl 3)⟩,⟨(some (18,true)),(some 26),.load 1 false (.sl 25)⟩,⟨(some (18,true)),(some 27),.bin .gtr (.sl 24) (.sl 26)⟩,qy 28 18 27]
 (qd 28 (qr [qm 29 5,ql 30 3 true 3,qo 31 (.bsl 72 3 [(.int .i64 0),qN,qN] 1 [(0,3,(.sl 30))]),qo 32 (.app 72 3 56 (.sl 29) (.sl 31)),qm 5 32]
 (.reg [qc 6 (.bool true)] [])) .skip))
 (.reg [qm 33 5,qf 34 0 2,ql 35 1 false 34,qm 36 7,qa 37 3 35 36,ql 38 3 true 37,qo 39 (.bsl 72 3 [(.int .i64 0),qN,qN] 1 [(0,3,(.sl 38))]),qo 40 (.app 72 3 56 (.sl 33) (.sl 39)),qm 5 40] [])))
 (.reg [qm 14 7,qk 15 .add 14 1,qm 7 15] []))))))
 (.seq (qr [qm 41 6,qo 42 (.un .not (.sl 41))]
 (qd 42 (.reg [qm 43 5,ql 44 3 true 3,qo 45 (.bsl 72 3 [(.int .i64 0),qN,qN] 1 [(0,3,(.sl 44))]),qo 46 (.app 72 3 56 (.sl 43) (.sl 45)),qm 5 46] []) .skip))
 (qr [qm 47 5,qf 48 0 2,qs 1 48 47]
 (qr [ql 49 2 true 2,qs 2 4 49]
 .ret))))))),[.cell 4 2 true],true⟩
def F64:bn:=⟨50,0,(
 qr [qo 2 (.box 2 (.sl 0)),qo 3 (.box 5 (.sl 1)),qo 4 (.alloc [qN,qN])]
 (qr [qo 8 (.bsl 68 5 [(.int .i64 0),(.str ⟨#[]⟩),(.int .i64 0),(.int .i64 0),qN] 0 []),qm 5 8]
 (qr [qc 6 (.bool false)]
 (.seq (qr [qi 7 0]
 (.block 0 (.loop (.seq (qr [qm 9 7,qf 10 1 2,ql 11 1 false 10,qn 12 11,qb 13 .lss 9 12]
 (qd 13 .skip (.exit 0)))
 (.seq (.block 1 (.seq (qr [qm 16 6,qo 17 (.un .not (.sl 16)),qm 18 17,⟨(some (18,true)),(some 19),.fad 1 (.sl 2)⟩,⟨(some (18,true)),(some 20),.load 1 false (.sl 19)⟩,⟨(some (18,true)),(some 21),.mv (.sl 7)⟩,⟨(some (18,true)),(some 22),.iad 5 (.sl 20) (.sl 21)⟩,⟨(some (18,true)),(some 23),.fad 0 (.sl 22)⟩,⟨(some (18,true)),(some 24),.load 1 false (.sl 23)⟩,⟨(some (18,true)),(some 25),.fad 0 (.sl 3)⟩,⟨(some (18,true)),(some 26),.load 1 false (.sl 25)⟩,⟨(some (18,true)),(some 27),.bin .gtr (.sl 24) (.sl 26)⟩,qy 28 18 27]
 (qd 28 (qr [qm 29 5,ql 30 5 true 3,qo 31 (.bsl 68 5 [(.int .i64 0),(.str ⟨#[]⟩),(.int .i64 0),(.int .i64 0),qN] 1 [(0,5,(.sl 30))]),qo 32 (.app 68 5 64 (.sl 29) (.sl 31)),qm 5 32]
 (.reg [qc 6 (.bool true)] [])) .skip))
 (.reg [qm 33 5,qf 34 1 2,ql 35 1 false 34,qm 36 7,qa 37 5 35 36,ql 38 5 true 37,qo 39 (.bsl 68 5 [(.int .i64 0),(.str ⟨#[]⟩),(.int .i64 0),(.int .i64 0),qN] 1 [(0,5,(.sl 38))]),qo 40 (.app 68 5 64 (.sl 33) (.sl 39)),qm 5 40] [])))
 (.reg [qm 14 7,qk 15 .add 14 1,qm 7 15] []))))))
 (.seq (qr [qm 41 6,qo 42 (.un .not (.sl 41))]
 (qd 42 (.reg [qm 43 5,ql 44 5 true 3,qo 45 (.bsl 68 5 [(.int .i64 0),(.str ⟨#[]⟩),(.int .i64 0),(.int .i64 0),qN] 1 [(0,5,(.sl 44))]),qo 46 (.app 68 5 64 (.sl 43) (.sl 45)),qm 5 46] []) .skip))
 (qr [qm 47 5,qf 48 1 2,qs 1 48 47]
 (qr [ql 49 2 true 2,qs 2 4 49]
 .ret))))))),[.cell 4 2 true],true⟩
def F67:bn:=⟨22,0,(
 qr [qc 4 qN]
 (qr [qc 5 qN]
 (.seq (qr [qm 8 0,qn 9 8,qi 10 0]
 (.block 0 (.loop (qr [qb 11 .lss 10 9]
 (.seq (qd 11 .skip (.exit 0))
 (.seq (.block 1 (qr [qa 12 5 8 10,ql 13 5 true 12,qo 7 (.alloc [(.int .i64 0),(.str ⟨#[]⟩),(.int .i64 0),(.int .i64 0),qN]),qs 5 7 13]
 (.reg [qm 14 5,qm 15 1,ql 16 5 true 7,qo 17 (.cval (.sl 15) [.sl 16]),qo 18 (.bsl 68 5 [(.int .i64 0),(.str ⟨#[]⟩),(.int .i64 0),(.int .i64 0),qN] 1 [(0,5,(.sl 17))]),qo 19 (.app 68 5 64 (.sl 14) (.sl 18)),qm 5 19] [])))
 (.reg [qk 20 .add 10 1,qm 10 20] [])))))))
 (qr [qm 21 5,qm 4 21]
 .ret)))),[.tmp 4],true⟩
def F5:bn:=⟨69,0,(
 qr [qc 2 (.bool false)]
 (qr [qi 3 1048576]
 (qr [qm 11 0,qm 12 3,qu 13 22 11 12,qm 3 13]
 (qg [qm 14 3,qk 15 .lss 14 0] 15 (qc 2 (.bool true))
 (qr [qm 16 0,qt 17 24 16,qt 18 23 17,qo 4 (.alloc [(.int .i64 0),(.int .i64 0),qN,qN]),qs 4 4 18]
 (qr [qm 19 0,qt 20 24 19,qm 5 20]
 (qr [qm 21 5,qt 22 25 21,qo 6 (.alloc [(.int .i64 0),(.int .i64 0),qN,qN]),qs 4 6 22]
 (qg [ql 23 4 true 6,ql 24 4 true 4,qu 25 26 23 24,qo 26 (.un .not (.sl 25))] 26 (qc 2 (.bool false))
 (qg [qm 27 5,qm 28 0,qt 29 24 28,qu 30 12 27 29,qo 31 (.un .not (.sl 30))] 31 (qc 2 (.bool false))
 (qr [qi 7 1]
 (qr [qm 32 5,qm 33 7,qo 34 (.callU 15 [(.sl 32),(.sl 33)]),qm 7 34]
 (qg [qm 35 7,qk 36 .lss 35 0,qm 37 36,⟨(some (37,false)),(some 38),.load 4 true (.sl 6)⟩,⟨(some (37,false)),(some 39),.load 4 true (.sl 4)⟩,⟨(some (37,false)),(some 40),.call 26 [(.sl 38),(.sl 39)] []⟩,⟨(some (37,false)),(some 41),.un .not (.sl 40)⟩,qx 42 37 41] 42 (qc 2 (.bool false))
 (qr [qi 8 1]
 (qr [ql 43 4 true 6,qm 44 8,qo 45 (.callU 27 [(.sl 43),(.sl 44)]),qm 8 45]
 (qr [qi 9 1]
 (qr [ql 46 4 true 6,qm 47 9,qu 48 28 46 47,qm 9 48]
 (qg [qm 49 9,qk 50 .lss 49 0] 50 (qc 2 (.bool false))
 (qg [qm 51 9,qm 52 8,qb 53 .neq 51 52] 53 (qc 2 (.bool false))
 (qr [qm 54 0,qt 55 24 54,qt 56 25 55,qo 10 (.alloc [(.int .i64 0),(.int .i64 0),qN,qN]),qs 4 10 56]
 (qg [ql 57 4 true 10,ql 58 4 true 4,qu 59 26 57 58,qo 60 (.un .not (.sl 59))] 60 (qc 2 (.bool false))
 (qr [qi 9 1]
 (qr [ql 61 4 true 6,qm 62 9,qu 63 28 61 62,qm 9 63]
 (qg [qm 64 9,qk 65 .lss 64 0] 65 (qc 2 (.bool false))
 (qg [qm 66 9,qm 67 8,qb 68 .neq 66 67] 68 (qc 2 (.bool false))
 (qr [qc 2 (.bool true)]
 .ret))))))))))))))))))))))))),[.tmp 2],false⟩
def F22:bn:=⟨27,0,(
 qr [qi 4 0]
 (qr [qm 6 1,qm 7 0,qn 8 7,qb 9 .sub 6 8,qm 1 9]
 (qg [qm 10 1,qk 11 .lss 10 0] 11 (qi 4 (-1))
 (.seq (qr [qi 5 0]
 (.block 0 (.loop (.seq (qr [qm 12 5,qm 13 0,qn 14 13,qb 15 .lss 12 14]
 (qd 15 .skip (.exit 0)))
 (.seq (.block 1 (qr [qm 18 0,qm 19 5,qa 20 2 18 19,ql 21 2 true 20,qm 22 1,qu 23 8 21 22,qm 1 23]
 (qr [qm 24 1,qk 25 .lss 24 0]
 (qd 25 (qr [qi 4 (-1)]
 .ret) .skip))))
 (.reg [qm 16 5,qk 17 .add 16 1,qm 5 17] []))))))
 (qr [qm 26 1,qm 4 26]
 .ret))))),[.tmp 4],false⟩
def F23:bn:=⟨105,0,(
 qr [qo 2 (.alloc [(.int .i64 0),(.int .i64 0),qN,qN])]
 (.seq (qr [qm 8 0,qn 9 8,qk 10 .gtr 9 1000]
 (qd 10 (qr [qo 11 (.build [(.int .i64 0),(.int .i64 0),qN,qN] [(0,1,(.k (.int .i64 2)))]),qs 4 2 11]
 .ret) .skip))
 (qr [qm 12 0,qn 13 12,qm 3 13]
 (.seq (qr [qm 14 3,qk 15 .lss 14 1,qm 16 15,⟨(some (16,false)),(some 17),.mv (.sl 3)⟩,⟨(some (16,false)),(some 18),.bin .gtr (.sl 17) (.k (.int .i64 8))⟩,qx 19 16 18]
 (qd 19 (qr [qo 20 (.build [(.int .i64 0),(.int .i64 0),qN,qN] [(0,1,(.k (.int .i64 1)))]),qs 4 2 20]
 .ret) .skip))
 (qr [qo 21 (.build [qN,qN] []),qo 4 (.alloc [qN,qN]),qs 2 4 21]
 (.seq (qr [qi 5 0]
 (.block 0 (.loop (.seq (qr [qm 22 5,qm 23 3,qb 24 .lss 22 23]
 (qd 24 .skip (.exit 0)))
 (.seq (.block 1 (.seq (qr [qm 27 0,qm 28 5,qa 29 2 27 28,ql 30 2 true 29,qt 31 40 30,qk 32 .neq 31 0,qm 33 32,⟨(some (33,false)),(some 34),.mv (.sl 0)⟩,⟨(some (33,false)),(some 35),.mv (.sl 5)⟩,⟨(some (33,false)),(some 36),.iad 2 (.sl 34) (.sl 35)⟩,⟨(some (33,false)),(some 37),.load 2 true (.sl 36)⟩,⟨(some (33,false)),(some 38),.mv (.sl 3)⟩,⟨(some (33,false)),(some 39),.mv (.sl 5)⟩,⟨(some (33,false)),(some 40),.call 62 [(.sl 37),(.sl 38),(.sl 39)] []⟩,⟨(some (33,false)),(some 41),.un .not (.sl 40)⟩,qx 42 33 41]
 (qd 42 (qr [qo 43 (.build [(.int .i64 0),(.int .i64 0),qN,qN] [(0,1,(.k (.int .i64 1)))]),qs 4 2 43]
 .ret) .skip))
 (.seq (qr [qi 6 0]
 (.block 2 (.loop (.seq (qr [qm 44 6,qm 45 0,qm 46 5,qa 47 2 45 46,qf 48 0 47,ql 49 1 false 48,qn 50 49,qb 51 .lss 44 50]
 (qd 51 .skip (.exit 2)))
 (.seq (.block 3 (qr [qm 54 0,qm 55 5,qa 56 2 54 55,qf 57 0 56,ql 58 1 false 57,qm 59 6,qa 60 3 58 59,qf 61 0 60,ql 62 1 false 61,qm 63 3,qb 64 .rem 62 63,qm 65 5,qb 66 .eql 64 65]
 (qd 66 (.reg [ql 67 2 true 4,qm 68 0,qm 69 5,qa 70 2 68 69,qf 71 0 70,ql 72 1 false 71,qm 73 6,qa 74 3 72 73,ql 75 3 true 74,qt 76 42 75,qo 77 (.call 63 [(.sl 67),(.sl 76)] [0]),qs 2 4 77] [(0,9)]) .skip)))
 (.reg [qm 52 6,qk 53 .add 52 1,qm 6 53] []))))))
 (qr [qi 7 0]
 (.block 4 (.loop (.seq (qr [qm 78 7,qm 79 0,qm 80 5,qa 81 2 79 80,qf 82 1 81,ql 83 1 false 82,qn 84 83,qb 85 .lss 78 84]
 (qd 85 .skip (.exit 4)))
 (.seq (.block 5 (.reg [ql 88 2 true 4,qm 89 0,qm 90 5,qa 91 2 89 90,qf 92 1 91,ql 93 1 false 92,qm 94 7,qa 95 5 93 94,ql 96 5 true 95,qt 97 41 96,qo 98 (.call 64 [(.sl 88),(.sl 97)] [0]),qs 2 4 98] [(0,9)]))
 (.reg [qm 86 7,qk 87 .add 86 1,qm 7 87] [])))))))))
 (.reg [qm 25 5,qk 26 .add 25 1,qm 5 26] []))))))
 (.seq (qr [ql 99 2 true 4,qt 100 40 99,qk 101 .neq 100 0]
 (qd 101 (qr [qo 102 (.build [(.int .i64 0),(.int .i64 0),qN,qN] [(0,1,(.k (.int .i64 1)))]),qs 4 2 102]
 .ret) .skip))
 (qr [ql 103 2 true 4,qo 104 (.build [(.int .i64 0),(.int .i64 0),qN,qN] [(2,2,(.sl 103))]),qs 4 2 104]
 .ret)))))))),[.cell 2 4 true],false⟩
def F24:bn:=⟨23,0,(
 qr [qc 2 qN]
 (qr [qm 5 0,qn 6 5,qo 7 (.mks 32 2 48 [qN,qN] (.sl 6) (.sl 6)),qm 3 7]
 (.seq (qr [qi 4 0]
 (.block 0 (.loop (.seq (qr [qm 8 4,qm 9 0,qn 10 9,qb 11 .lss 8 10]
 (qd 11 .skip (.exit 0)))
 (.seq (.block 1 (.reg [qm 14 3,qm 15 4,qm 16 0,qm 17 4,qa 18 2 16 17,ql 19 2 true 18,qt 20 10 19,qa 21 2 14 15,qs 2 21 20] []))
 (.reg [qm 12 4,qk 13 .add 12 1,qm 4 13] []))))))
 (qr [qm 22 3,qm 2 22]
 .ret)))),[.tmp 2],true⟩
def F25:bn:=⟨68,0,(
 qr [qo 2 (.alloc [(.int .i64 0),(.int .i64 0),qN,qN])]
 (.seq (qr [qm 9 0,qn 10 9,qk 11 .gtr 10 1000]
 (qd 11 (qr [qo 12 (.build [(.int .i64 0),(.int .i64 0),qN,qN] [(0,1,(.k (.int .i64 2)))]),qs 4 2 12]
 .ret) .skip))
 (.seq (qr [qm 13 0,qt 14 65 13,qo 15 (.un .not (.sl 14))]
 (qd 15 (qr [qo 16 (.build [(.int .i64 0),(.int .i64 0),qN,qN] [(0,1,(.k (.int .i64 1)))]),qs 4 2 16]
 .ret) .skip))
 (qr [qo 17 (.build [qN,qN] []),qo 3 (.alloc [qN,qN]),qs 2 3 17]
 (qr [qm 18 0,qn 19 18,qm 4 19]
 (.seq (qr [qm 20 0,qn 21 20,qi 22 0]
 (.block 0 (.loop (qr [qb 23 .lss 22 21]
 (.seq (qd 23 .skip (.exit 0))
 (.seq (.block 1 (qr [qm 24 22,qa 25 2 20 22,ql 26 2 true 25,qo 6 (.alloc [qN,qN]),qm 5 24,qs 2 6 26]
 (.seq (qr [qf 27 0 6,ql 28 1 false 27,qn 29 28,qi 30 0]
 (.block 2 (.loop (qr [qb 31 .lss 30 29]
 (.seq (qd 31 .skip (.exit 2))
 (.seq (.block 3 (qr [qa 32 3 28 30,ql 33 3 true 32,qo 8 (.alloc [(.int .i64 0),qN,qN]),qs 3 8 33]
 (qr [qf 34 0 8,ql 35 1 false 34,qm 36 4,qb 37 .rem 35 36,qm 38 5,qb 39 .eql 37 38]
 (qd 39 (.reg [qf 40 0 3,ql 41 1 false 40,ql 42 3 true 8,qt 43 66 42,qo 44 (.bsl 72 3 [(.int .i64 0),qN,qN] 1 [(0,3,(.sl 43))]),qo 45 (.app 72 3 56 (.sl 41) (.sl 44)),qf 46 0 3,qs 1 46 45] [(1,3)]) .skip))))
 (.reg [qk 47 .add 30 1,qm 30 47] [])))))))
 (.reg [qf 48 1 3,ql 49 1 false 48,qf 50 1 6,ql 51 1 false 50,qo 52 (.call 67 [(.sl 51),(.k (.fn 68 []))] []),qo 53 (.app 68 5 64 (.sl 49) (.sl 52)),qf 54 1 3,qs 1 54 53] [(1,4)]))))
 (.reg [qk 55 .add 22 1,qm 22 55] [])))))))
 (qr [qf 56 0 3,ql 57 1 false 56,qo 58 (.callU 69 [(.sl 57),(.k (.fn 70 []))])]
 (qr [qf 59 1 3,ql 60 1 false 59,qo 61 (.callU 72 [(.sl 60),(.k (.fn 73 []))])]
 (.seq (qr [ql 62 2 true 3,qt 63 46 62,qo 64 (.un .not (.sl 63))]
 (qd 64 (qr [qo 65 (.build [(.int .i64 0),(.int .i64 0),qN,qN] [(0,1,(.k (.int .i64 1)))]),qs 4 2 65]
 .ret) .skip))
 (qr [ql 66 2 true 3,qo 67 (.build [(.int .i64 0),(.int .i64 0),qN,qN] [(2,2,(.sl 66))]),qs 4 2 67]
 .ret)))))))))),[.cell 2 4 true],true⟩
def F26:bn:=⟨21,0,(
 qr [qo 2 (.box 4 (.sl 0)),qo 3 (.box 4 (.sl 1)),qc 4 (.bool false)]
 (qg [qf 5 0 2,ql 6 1 false 5,qf 7 0 3,ql 8 1 false 7,qb 9 .neq 6 8] 9 (qc 4 (.bool false))
 (qg [qf 10 1 2,ql 11 1 false 10,qf 12 1 3,ql 13 1 false 12,qb 14 .neq 11 13] 14 (qc 4 (.bool false))
 (qg [qf 15 2 2,ql 16 2 true 15,qf 17 2 3,ql 18 2 true 17,qu 19 13 16 18,qo 20 (.un .not (.sl 19))] 20 (qc 4 (.bool false))
 (qr [qc 4 (.bool true)]
 .ret))))),[.tmp 4],false⟩
def FB27:bn:=⟨10,0,(
 qr [qo 2 (.box 4 (.sl 0)),qi 4 0]
 (qr [qf 5 2 2,ql 6 2 true 5,qm 7 1,qo 8 (.callU 14 [(.sl 6),(.sl 7)]),qm 1 8]
 (qr [qm 9 1,qm 4 9]
 .ret))),[.tmp 4,.tmp 0],true⟩
def F28:bn:=⟨12,0,(
 qr [qo 2 (.box 4 (.sl 0)),qi 4 0]
 (qr [qf 5 2 2,ql 6 2 true 5,qm 7 1,qu 8 74 6 7,qm 1 8]
 (qg [qm 9 1,qk 10 .lss 9 0] 10 (qi 4 (-1))
 (qr [qm 11 1,qm 4 11]
 .ret)))),[.tmp 4],false⟩
def F62:bn:=⟨55,0,(
 qr [qo 3 (.box 2 (.sl 0)),qc 6 (.bool false)]
 (.seq (qr [qi 7 0]
 (.block 0 (.loop (.seq (qr [qm 9 7,qf 10 0 3,ql 11 1 false 10,qn 12 11,qb 13 .lss 9 12]
 (qd 13 .skip (.exit 0)))
 (.seq (.block 1 (qr [qf 16 0 3,ql 17 1 false 16,qm 18 7,qa 19 3 17 18,ql 20 3 true 19,qo 8 (.alloc [(.int .i64 0),qN,qN]),qs 3 8 20]
 (qr [qf 21 0 8,ql 22 1 false 21,qm 23 1,qb 24 .rem 22 23,qm 25 2,qb 26 .neq 24 25,qm 27 26,⟨(some (27,true)),(some 28),.fad 1 (.sl 8)⟩,⟨(some (27,true)),(some 29),.load 1 false (.sl 28)⟩,⟨(some (27,true)),(some 30),.len (.sl 29)⟩,⟨(some (27,true)),(some 31),.bin .gtr (.sl 30) (.k (.int .i64 0))⟩,⟨(some (27,true)),(some 32),.mv (.sl 31)⟩,⟨(some (32,false)),(some 33),.fad 2 (.sl 8)⟩,⟨(some (32,false)),(some 34),.load 1 false (.sl 33)⟩,⟨(some (32,false)),(some 35),.len (.sl 34)⟩,⟨(some (32,false)),(some 36),.bin .gtr (.sl 35) (.k (.int .i64 0))⟩,⟨(some (27,true)),(some 37),.pick (.sl 32) (.k (.bool true)) (.sl 36)⟩,⟨(some (27,true)),(some 38),.mv (.sl 37)⟩,⟨(some (38,false)),(some 39),.load 2 true (.sl 3)⟩,⟨(some (38,false)),(some 40),.fad 0 (.sl 8)⟩,⟨(some (38,false)),(some 41),.load 1 false (.sl 40)⟩,⟨(some (38,false)),(some 42),.call 43 [(.sl 39),(.sl 41),(.k (.bool true))] []⟩,⟨(some (38,false)),(some 43),.len (.sl 42)⟩,⟨(some (38,false)),(some 44),.bin .gtr (.sl 43) (.k (.int .i64 0))⟩,⟨(some (27,true)),(some 45),.pick (.sl 38) (.k (.bool true)) (.sl 44)⟩,⟨(some (27,true)),(some 46),.mv (.sl 45)⟩,⟨(some (46,false)),(some 47),.load 2 true (.sl 3)⟩,⟨(some (46,false)),(some 48),.fad 0 (.sl 8)⟩,⟨(some (46,false)),(some 49),.load 1 false (.sl 48)⟩,⟨(some (46,false)),(some 50),.call 43 [(.sl 47),(.sl 49),(.k (.bool false))] []⟩,⟨(some (46,false)),(some 51),.len (.sl 50)⟩,⟨(some (46,false)),(some 52),.bin .eql (.sl 51) (.k (.int .i64 0))⟩,⟨(some (27,true)),(some 53),.pick (.sl 46) (.k (.bool true)) (.sl 52)⟩,qy 54 27 53]
 (qd 54 (qr [qc 6 (.bool false)]
 .ret) .skip))))
 (.reg [qm 14 7,qk 15 .add 14 1,qm 7 15] []))))))
 (qr [qc 6 (.bool true)]
 .ret))),[.tmp 6],false⟩
def F65:bn:=⟨118,0,(
 qr [qc 2 (.bool false)]
 (qr [qm 15 0,qn 16 15,qm 3 16]
 (qg [qm 17 3,qk 18 .lss 17 1,qm 19 18,⟨(some (19,false)),(some 20),.mv (.sl 3)⟩,⟨(some (19,false)),(some 21),.bin .gtr (.sl 20) (.k (.int .i64 8))⟩,qx 22 19 21] 22 (qc 2 (.bool false))
 (qr [qo 23 (.mkmap),qm 4 23]
 (.seq (qr [qm 24 0,qn 25 24,qi 26 0]
 (.block 0 (.loop (qr [qb 27 .lss 26 25]
 (.seq (qd 27 .skip (.exit 0))
 (.seq (.block 1 (qr [qa 28 2 24 26,ql 29 2 true 28,qo 6 (.alloc [qN,qN]),qs 2 6 29]
 (qg [ql 30 2 true 6,qt 31 46 30,qo 32 (.un .not (.sl 31))] 32 (qc 2 (.bool false))
 (qr [qf 33 1 6,ql 34 1 false 33,qn 35 34,qi 36 0]
 (.block 2 (.loop (qr [qb 37 .lss 36 35]
 (.seq (qd 37 .skip (.exit 2))
 (.seq (.block 3 (qr [qa 38 5 34 36,ql 39 5 true 38,qo 8 (.alloc [(.int .i64 0),(.str ⟨#[]⟩),(.int .i64 0),(.int .i64 0),qN]),qs 5 8 39]
 (qr [qm 40 4,qf 41 0 8,ql 42 1 false 41,qo 43 (.mpget false (.int .i64 0) 0 (.sl 40) (.sl 42)),qk 44 .add 43 1,qe (.mpset 0 (.sl 40) (.sl 42) (.sl 44))]
 (qr [qm 45 4,qf 46 0 8,ql 47 1 false 46,qo 48 (.mpget false (.int .i64 0) 0 (.sl 45) (.sl 47)),qk 49 .gtr 48 1]
 (qd 49 (qr [qc 2 (.bool false)]
 .ret) .skip)))))
 (.reg [qk 50 .add 36 1,qm 36 50] []))))))))))
 (.reg [qk 51 .add 26 1,qm 26 51] [])))))))
 (.seq (qr [qm 52 0,qn 53 52,qi 54 0]
 (.block 4 (.loop (qr [qb 55 .lss 54 53]
 (.seq (qd 55 .skip (.exit 4))
 (.seq (.block 5 (qr [qm 56 54,qa 57 2 52 54,ql 58 2 true 57,qo 10 (.alloc [qN,qN]),qm 9 56,qs 2 10 58]
 (.seq (qr [qf 59 1 10,ql 60 1 false 59,qn 61 60,qi 62 0]
 (.block 6 (.loop (qr [qb 63 .lss 62 61]
 (.seq (qd 63 .skip (.exit 6))
 (.seq (.block 7 (qr [qa 64 5 60 62,ql 65 5 true 64,qo 12 (.alloc [(.int .i64 0),(.str ⟨#[]⟩),(.int .i64 0),(.int .i64 0),qN]),qs 5 12 65]
 (qr [qf 66 2 12,ql 67 1 false 66,qm 68 3,qb 69 .rem 67 68,qm 70 9,qb 71 .neq 69 70]
 (qd 71 (qr [qc 2 (.bool false)]
 .ret) .skip))))
 (.reg [qk 72 .add 62 1,qm 62 72] [])))))))
 (qr [qf 73 0 10,ql 74 1 false 73,qn 75 74,qi 76 0]
 (.block 8 (.loop (qr [qb 77 .lss 76 75]
 (.seq (qd 77 .skip (.exit 8))
 (.seq (.block 9 (qr [qa 78 3 74 76,ql 79 3 true 78,qo 14 (.alloc [(.int .i64 0),qN,qN]),qs 3 14 79]
 (.seq (qr [qf 80 0 14,ql 81 1 false 80,qm 82 3,qb 83 .rem 81 82,qm 84 9,qb 85 .eql 83 84]
 (qd 85 (.exit 9) .skip))
 (qr [qf 86 1 14,ql 87 1 false 86,qn 88 87,qk 89 .gtr 88 0,qm 90 89,⟨(some (90,false)),(some 91),.fad 2 (.sl 14)⟩,⟨(some (90,false)),(some 92),.load 1 false (.sl 91)⟩,⟨(some (90,false)),(some 93),.len (.sl 92)⟩,⟨(some (90,false)),(some 94),.bin .gtr (.sl 93) (.k (.int .i64 0))⟩,qx 95 90 94,qm 96 95,⟨(some (96,false)),(some 97),.fad 1 (.sl 10)⟩,⟨(some (96,false)),(some 98),.load 1 false (.sl 97)⟩,⟨(some (96,false)),(some 99),.mkfn 107 [.sl 14]⟩,⟨(some (96,false)),(some 100),.call 106 [(.sl 98),(.sl 99)] []⟩,⟨(some (96,false)),(some 101),.un .not (.sl 100)⟩,qx 102 96 101,qm 103 102,⟨(some (103,false)),(some 104),.mv (.sl 0)⟩,⟨(some (103,false)),(some 105),.fad 0 (.sl 14)⟩,⟨(some (103,false)),(some 106),.load 1 false (.sl 105)⟩,⟨(some (103,false)),(some 107),.mv (.sl 3)⟩,⟨(some (103,false)),(some 108),.bin .rem (.sl 106) (.sl 107)⟩,⟨(some (103,false)),(some 109),.iad 2 (.sl 104) (.sl 108)⟩,⟨(some (103,false)),(some 110),.load 2 true (.sl 109)⟩,⟨(some (103,false)),(some 111),.fad 0 (.sl 14)⟩,⟨(some (103,false)),(some 112),.load 1 false (.sl 111)⟩,⟨(some (103,false)),(some 113),.call 90 [(.sl 110),(.sl 112)] []⟩,⟨(some (103,false)),(some 114),.bin .lss (.sl 113) (.k (.int .i64 0))⟩,qx 115 103 114]
 (qd 115 (qr [qc 2 (.bool false)]
 .ret) .skip)))))
 (.reg [qk 116 .add 76 1,qm 76 116] []))))))))))
 (.reg [qk 117 .add 54 1,qm 54 117] [])))))))
 (qr [qc 2 (.bool true)]
 .ret))))))),[.tmp 2],false⟩
def F106:bn:=⟨9,1,(
 qr [qc 4 (.bool false)]
 (qr [qm 5 0,qm 6 1,qu 7 136 5 6,qk 8 .geq 7 0,qm 4 8]
 .ret)),[.tmp 4],false⟩
def F107:bn:=⟨9,1,(
 qr [qo 2 (.box 5 (.sl 0)),qc 3 (.bool false)]
 (qr [qf 4 3 2,ql 5 1 false 4,qf 6 0 1,ql 7 1 false 6,qb 8 .eql 5 7,qm 3 8]
 .ret)),[.tmp 3],false⟩
def F136:bn:=⟨19,1,(
 qr [qi 4 0]
 (.seq (qr [qm 6 0,qn 7 6,qi 8 0]
 (.block 0 (.loop (qr [qb 9 .lss 8 7]
 (.seq (qd 9 .skip (.exit 0))
 (.seq (.block 1 (qr [qm 10 8,qm 5 10]
 (qr [qm 11 1,qm 12 0,qm 13 5,qa 14 5 12 13,ql 15 5 true 14,qo 16 (.cval (.sl 11) [.sl 15])]
 (qd 16 (qr [qm 17 5,qm 4 17]
 .ret) .skip))))
 (.reg [qk 18 .add 8 1,qm 8 18] [])))))))
 (qr [qi 4 (-1)]
 .ret))),[.tmp 4],false⟩
def T:Nat→Option bn
 |63=>some F63
 |64=>some F64
 |67=>some F67
 |74=>some F74
 |8=>some F8
 |10=>some F10
 |12=>some F12
 |13=>some F13
 |38=>some F38
 |39=>some F39
 |40=>some F40
 |41=>some F41
 |42=>some F42
 |43=>some F43
 |44=>some F44
 |45=>some F45
 |46=>some F46
 |48=>some F48
 |49=>some F49
 |52=>some F52
 |53=>some F53
 |59=>some F59
 |60=>some F60
 |61=>some F61
 |66=>some F66
 |68=>some F68
 |79=>some F79
 |80=>some F80
 |81=>some F81
 |82=>some F82
 |83=>some F83
 |84=>some F84
 |85=>some F85
 |86=>some F86
 |87=>some F87
 |88=>some F88
 |89=>some F89
 |90=>some F90
 |93=>some F93
 |94=>some F94
 |98=>some F98
 |103=>some F103
 |108=>some F108
 |116=>some F116
 |117=>some F117
 |118=>some F118
 |119=>some F119
 |120=>some F120
 |121=>some F121
 |122=>some F122
 |123=>some F123
 |124=>some F124
 |125=>some F125
 |126=>some F126
 |127=>some F127
 |129=>some F129
 |130=>some F130
 |165=>some F165
 |166=>some F166
 |167=>some F167
 |168=>some F168
 |169=>some F169
 |170=>some F170
 |171=>some F171
 |172=>some F172
 |173=>some F173
 |176=>some F176
 |186=>some F186
 |188=>some F188
 |191=>some F191
 |192=>some F192
 |200=>some F200
 |201=>some F201
 |209=>some F209
 |210=>some F210
 |211=>some F211
 |212=>some F212
 |213=>some F213
 |214=>some F214
 |215=>some F215
 |216=>some F216
 |217=>some F217
 |218=>some F218
 |219=>some F219
 |220=>some F220
 |221=>some F221
 |222=>some F222
 |223=>some F223
 |224=>some F224
 |225=>some F225
 |226=>some F226
 |227=>some F227
 |231=>some F231
 |232=>some F232
 |233=>some F233
 |234=>some F234
 |235=>some F235
 |236=>some F236
 |237=>some F237
 |238=>some F238
 |240=>some F240
 |241=>some F241
 |242=>some F242
 |244=>some F244
 |245=>some F245
 |248=>some F248
 |5=>some F5
 |22=>some F22
 |23=>some F23
 |24=>some F24
 |25=>some F25
 |26=>some F26
 |1000027=>some FB27
 |28=>some F28
 |62=>some F62
 |65=>some F65
 |106=>some F106
 |136=>some F136
 |107=>some F107
 |1000015=>some FB15
 |1000014=>some FB14
 |1000050=>some FB50
 |1000051=>some FB51
 |1000057=>some FB57
 |1000058=>some FB58
 |_=>none
def gT(cf:au):Prop:=∀ f F,T f=some F→EO cf f F
theorem MI:
  (∀ {k:IntKind} {a b:Int},dv .lss (.int k a) (.int k b)=some (.bool (decide (a<b))))∧(∀ {k:IntKind} {a b:Int},dv .leq (.int k a) (.int k b)=some (.bool (decide (a≤b))))∧
  (∀ {k:IntKind} {a b:Int},dv .gtr (.int k a) (.int k b)=some (.bool (decide (b<a))))∧(∀ {k:IntKind} {a b:Int},dv .geq (.int k a) (.int k b)=some (.bool (decide (b≤a))))∧
  (∀ {k:IntKind} {a b:Int},dv .eql (.int k a) (.int k b)=some (.bool (decide (a=b))))∧(∀ {k:IntKind} {a b:Int},dv .neq (.int k a) (.int k b)=some (.bool (decide (a≠b))))∧
  (∀ {k:IntKind} {a b:Int},dv .add (.int k a) (.int k b)=some (.int k (k.wrap (a+b))))∧(∀ {k:IntKind} {a b:Int},dv .sub (.int k a) (.int k b)=some (.int k (k.wrap (a-b))))∧(∀ {k:IntKind} {a b:Int},dv .mul (.int k a) (.int k b)=some (.int k (k.wrap (a*b))))∧
  (∀ {s t:List UInt8},dv .eql (S s) (S t)=some (.bool (decide (s=t))))∧(∀ {s t:List UInt8},dv .neq (S s) (S t)=some (.bool (decide (s≠t))))∧(∀ {s t:List UInt8},dv .lss (S s) (S t)=some (.bool (ej s t)))∧
  (∀ {s t:List UInt8},dv .geq (S s) (S t)=some (.bool !(ej s t)))∧(∀ {s t:List UInt8},dv .gtr (S s) (S t)=some (.bool !(ej s t||decide (s=t))))∧(∀ {s t:List UInt8},dv .leq (S s) (S t)=some (.bool (ej s t||decide (s=t))))∧
  (∀ {s t:List UInt8},s.length+t.length≤9223372036854775807→dv .add (S s) (S t)=some (S (s++t)))∧
  (∀ {x:Bool},sV .not (.bool x)=some (.bool !x))∧(∀ {k:IntKind} {a:Int},sV .neg (.int k a)=some (.int k (k.wrap (-a))))∧
  (∀ {a:Int},-9223372036854775808≤a→a≤9223372036854775807→IntKind.i64.wrap a=a)∧(∀ {a:Int},0≤a→a≤255→IntKind.u8.wrap a=a)∧
  (∀ {l:List UInt8} {j:Int} {st:St},0≤j→j.toNat<l.length→zS (S l) (I j) st=some (U (cI l j.toNat),st))∧
  (∀ {l:List UInt8} {j:Int} {st:St},0≤j→j≤(l.length:Int)→nV (S l) (some (I j)) none st=some (S (l.drop j.toNat),st))∧
  (∀ {l:List UInt8} {j:Int} {st:St},0≤j→j≤(l.length:Int)→nV (S l) none (some (I j)) st=some (S (l.take j.toNat),st))∧
  (∀ {l:List UInt8} {a b:Int} {st:St},0≤a→a≤b→b≤(l.length:Int)→nV (S l) (some (I a)) (some (I b)) st=some (S ((l.take b.toNat).drop a.toNat),st))∧
  (∀ {sz n:Nat} {cs:List PV} {t:ay} {j:Int} {st:St},0≤j→j<(n:Int)→cs.length=n*sz→sv sz (.list n cs t) (I j) st=some (.iptr cs (j.toNat*sz) (t.elt n),st))∧
  (∀ {sz e sz' s n:Nat} {j:Int} {st:St},0≤j→j<(n:Int)→sv sz (.osl e sz' s n) (I j) st=some (.ptr s (j.toNat*sz),st))∧
  (iA .ret↔True)∧(iA .go↔True)∧
  (∀ {ns:List Nat} {c:List PV} {cs:List (List PV)},(cF ns (c::cs)).objs 0=some c)∧(∀ {n:Nat},ay.elt n .no= .no):=
 ⟨Mu,Mv,Mw,Mx,My,Ms,Mz,Mr,Mt,Ma,L5,L6,L9,L8,L7,Mb,LX,LY,wrap_i64,Cj,GY,Jr,Js,E3,FU,HZ,Iff.rfl,Iff.rfl,rfl,rfl⟩
theorem pa:type_of% (And.intro ME (And.intro MJ (And.intro MH KR))):=And.intro ME (And.intro MJ (And.intro MH KR))
theorem pb:type_of% (And.intro MD (And.intro MG (And.intro MF (And.intro MK MI)))):=And.intro MD (And.intro MG (And.intro MF (And.intro MK MI)))
section
variable {cf:au} {f:Nat} {F:bn} {as:List PV} {r q:PV} {t t2:Nat} {st:St}
theorem cB(K:gT cf)(hT:T f=some F)(hres:F.res=[.tmp t])(hown:F.own=false)(hnt:as.length≤F.nt)(has:∀ p∈as,cL p)(hr:mc r)(N:Nat)(h:Wp cf N F.body (eP as,cF [] []) (fun e y=>iA e∧y.1 t=r)):ar cf f as [] st=some (r,st):=
 oV has hr (K7 (K f F hT) hres hown hnt hr.plain N h)
theorem xG(K:gT cf)(hT:T f=some F)(hres:F.res=[.tmp t])(hown:F.own=false)(hnt:as.length+1≤F.nt)(hnk:1≤F.nk)(has:∀ p∈as,cL p)(hr:mc r){s:Nat}{c c':List PV}(hs:st.objs s=some c)(hc:b8 c)(hc':oG c')(N:Nat)
  (h:Wp cf N F.body (eP (.ptr 0 0::as),cF [] [c]) (fun e y=>iA e∧y.1 t=r∧y.2.objs 0=some c')):ar cf f (.ptr s 0::as) [] st=some (r,bU st s c'):=
 Ij hs hc hc' has hr (K8 (K f F hT) hres hown hnt hnk hr.plain hc'.plain N h)
end
mutual
theorem qT(f:Nat→Option Nat)(s:Bool):∀ p:PV,ren f s (ren (fun _=>none) true p)=ren (fun _=>none) true p
 | .list n cs t=>by
  simp only[ren,iG f s cs]
  cases t<;>rfl
 | .iptr cs o t=>by
  simp only[ren,iG f s cs]
  cases t<;>rfl
 | .agg cs=>by simp only[ren,iG f s cs]
 | .tup cs=>by simp only[ren,iG f s cs]
 | .fn g cs=>by simp only[ren,iG f s cs]
 | .any| .hole| .int _ _| .bool _| .str _| .nilp| .nili| .err| .ptr _ _| .osl _ _ _ _| .mp _=>rfl
theorem iG(f:Nat→Option Nat)(s:Bool):∀ ps:List PV,bB f s (bB (fun _=>none) true ps)=bB (fun _=>none) true ps
 | []=>rfl
 |p::ps=>by simp only[bB,qT f s p,iG f s ps]
end
theorem HB(p:PV):np (aA p)=np p:=by simp only[np,aA,fC]
def jv:PV→Bool
 | .osl .. =>false
 | .ptr .. =>false
 |_=>true
theorem mj(nk:Nat)(st:St):∀ (ps:List PV),(∀ p∈ps,jv p=true)→b9 nk ps st=(ps,st)
 | [],_=>by rw[b9]
 |p::ps,h=>by
  have ih:=mj nk st ps fun q hq=>h q (by simp[hq])
  have hp:=h p (by simp)
  cases p<;>first|exact absurd hp Bool.false_ne_true|(rw[b9,ih];intros;simp_all)
def gM:List PV→Bool
 | []=>true
 |p::ps=>np p && jv p && gM ps
theorem oB:∀ {ps:List PV},gM ps=true→(∀ p∈ps,jv p=true)∧aG ps=true
 | [],_=>⟨by simp,rfl⟩
 |p::ps,h=>by
  simp only[gM,aa]at h
  obtain⟨h1,h2⟩:=oB h.2
  refine⟨fun q hq=>?_,?_⟩
  ·rcases aJ.1 hq with rfl|hq
   ·exact h.1.2
   ·exact h1 q hq
  have a:al (fun _=>true) p=true:=h.1.1
  have b:cM (fun _=>true) ps=true:=h2
  simp only[aG,cM,a,b,am]
theorem AL{ps:List PV}(h:gM ps=true):np (eq ps)=true:=by
 have h2:=(oB h).2
 match ps with
 | []=>rfl
 | [p]=>simp only[gM,aa]at h;exact h.1.1
 |p::q::ps=>exact h2
theorem sA{F:bn}{n:Nat}{fr:Fr}{st:St}{ps0:List PV}{cs0:List (List PV)}(hown:F.own=false)(h:ei fr st F.res=some ps0)(hp:gM ps0=true)(hcs:cE st (List.range n)=some cs0)(hc:cs0.all aG=true):
  ge F n fr st=some (aA (eq ps0),[],cs0.map aB):=by
 simp only[ge,h,hcs,mj F.nk st ps0 (oB hp).1,AL hp,hc,am,if_true,jr,hown,fP,cA,if_false]
def sF:Option PV→Option (List PV)→Option (List PV)
 |some p,some ps=>some (p::ps)
 |_,_=>none
def tL(cs:Option (List PV))(al sz:Nat)(ag:Bool):Option PV:=match cs with
 |some cs=>bT cs al sz ag
 |none=>none
def sI(p:PV)(sz:Nat)(ag:Bool)(st:St):Option PV:=match p with
 | .ptr s al=>tL (st.objs s) al sz ag
 | .iptr cs al _=>bT cs al sz ag
 |_=>none
def vP(Q:PV→List PV→Prop):Option (List PV)→Option (List PV)→Prop
 |some ps,some c=>gM ps=true∧aG c=true∧Q (aA (eq ps)) (aB c)
 |_,_=>False
def ER(rs:List gr)(Q:PV→List PV→Prop)(e:Ex)(y:Fr×St):Prop:=iA e∧vP Q (ei y.1 y.2 rs) (y.2.objs 0)
def xN(rs:List gr)(Q:PV→Prop)(e:Ex)(y:Fr×St):Prop:=iA e∧vP (fun p _=>Q p) (ei y.1 y.2 rs) (some [])
def cQ(st:St)(v:Nat):St:={st with fl:=v}
section
variable {cf:au} {f:Nat} {F:bn} {as:List PV} {st:St} {rs:List gr}
theorem D7{s:Nat}(h:as.all bI=true):ch (.ptr s 0::as)=some [s]:=by
 simp only[ch,dX h]
 simp
theorem Ec{s:Nat}(h:as.all bI=true):d9 [] [] 0 0 (.ptr s 0::as)= .ptr 0 0::as.map aA:=by
 simp only[d9,ia _ _ h]
theorem fx(K:gT cf)(hT:T f=some F)(hres:F.res=rs)(hown:F.own=false)(hnt:as.length+1≤F.nt)(hnk:1≤F.nk)(has:∀ p∈as,cL p){s:Nat}{c:List PV}(hs:st.objs s=some c)(hc:b8 c)(N:Nat){Q:PV→List PV→Prop}
  (h:Wp cf N F.body (eP (.ptr 0 0::as),cF [] [c]) (ER rs Q)):∃ r c',Q r c'∧∃ fl,ar cf f (.ptr s 0::as) [] st=some (r,cQ (bU st s c') fl):=by
 obtain⟨e,⟨fr,s1⟩,hev,he,ho⟩:=h
 obtain⟨h1,h2⟩:=dR has
 subst hres
 revert ho
 generalize hps:ei fr s1 F.res=o1
 generalize hcc:s1.objs 0=o2
 intro ho
 match o1,o2,ho with
 |some ps0,some c1,ho=>
  obtain⟨hp,hn,hQ⟩:=ho
  have hcs:cE s1 (List.range [c].length)=some [c1]:=by
   have:List.range [c].length=[0]:=rfl
   rw[this];simp only[cE,hcc]
  have hf:=sA (n:=[c].length) hown hps hp hcs (by simp[hn])
  have hrun:ff cf N F (.ptr 0 0::as) [] [c]=some (aA (eq ps0),[],[aB c1]):=by
   unfold ff
   rw[ai ⟨by simpa using hnt,by simpa using hnk⟩,hev]
   cases e with
   |go=>exact hf
   |ret=>exact hf
   |exit i=>exact he.elim
  have hcf:=K f F hT N _ _ _ _ hrun
  refine⟨_,_,hQ,(if(ed (aA (eq ps0)) && [aB c1].all eg)||lj f (.ptr s 0::as) [c]then st.fl else st.nx),?_⟩
  ·simp only[ar,D7 h1,cE,hs,Ec h1,h2,aF,bK,hc.2.1,hcf,ao,aV,if_true]
   congr 1
   refine Prod.ext (qT _ _ _) ?_
   have hr:bB (fun k=>some (st.nx+k)) false (aB c1)=aB c1:=iG _ _ _
   simp only[hr]
   rfl
theorem B5{a:PV}{s:Nat}(h:bI a=true):ch [a,.ptr s 0]=some [s]:=by
 simp only[bI,aa]at h
 cases a<;>simp_all [ch]
theorem B7{a:PV}{s:Nat}(h:bI a=true):d9 [] [] 0 0 [a,.ptr s 0]=[aA a,.ptr 0 0]:=by
 cases a<;>first|(simp[bI]at h;done)|simp[d9]
mutual
theorem xS:∀ (p:PV),aA p=p→tf (fun _=>true) p=true
 | .list n cs t,h=>by
  simp only[aA,gW]at h
  injection h with _ h1 h2
  have:=lr cs h1
  cases t<;>simp_all [tf,ay.free,ay.of,ay.ren]
 | .iptr cs o t,h=>by
  simp only[aA,pU]at h
  injection h with h1 _ h2
  have:=lr cs h1
  cases t<;>simp_all [tf,ay.free,ay.of,ay.ren]
 | .agg cs,h=>by
  simp only[aA,ren]at h
  injection h with h1
  simp[tf,lr cs h1]
 | .tup cs,h=>by
  simp only[aA,ren]at h
  injection h with h1
  simp[tf,lr cs h1]
 | .fn g cs,h=>by
  simp only[aA,ren]at h
  injection h with _ h1
  simp[tf,lr cs h1]
 | .ptr _ _,_=>rfl
 | .osl _ _ _ _,_=>rfl
 | .mp _,_=>rfl
 | .any,_=>rfl
 | .hole,_=>rfl
 | .int _ _,_=>rfl
 | .bool _,_=>rfl
 | .str _,_=>rfl
 | .nilp,_=>rfl
 | .nili,_=>rfl
 | .err,_=>rfl
theorem lr:∀ (ps:List PV),aB ps=ps→dT (fun _=>true) ps=true
 | [],_=>rfl
 |p::ps,h=>by
  simp only[aB,bB]at h
  injection h with h1 h2
  simp[dT,xS p h1,lr ps h2]
end
theorem Lp{t:Nat}(K:gT cf)(hT:T f=some F)(hres:F.res=[.tmp t])(hown:F.own=false)(hnt:2≤F.nt)(hnk:1≤F.nk){a r:PV}(ha:cL a)(hr:mc r){s:Nat}{c:List PV}(hs:st.objs s=some c)(hc:b8 c)(N:Nat)
  (h:Wp cf N F.body (eP [a,.ptr 0 0],cF [] [c]) (fun e y=>iA e∧y.1 t=r∧y.2.objs 0=some c)):ar cf f [a,.ptr s 0] [] st=some (r,st):=by
 obtain⟨p1,p2⟩:=dR (ps:=[a]) (by simpa using ha)
 have p1:bI a=true:=by simpa using p1
 have p2:aA a=a:=by simpa using p2
 have hcf:cf f [a,.ptr 0 0] [] [c]=some (r,[],[c]):=K f F hT N _ [] [c] _ (qP h (by simpa using hnt) hnk fun e y hq=>⟨hq.1,pq (cs:=[c]) hres hown (by
  have:List.range [c].length=[0]:=rfl
  rw[this];simp only[cE,hq.2.2]) (by simpa using hc) ⟨hr.1,hr.2.1,hr.2.2.2.1,hr.2.2.2.2⟩ hq.2.1⟩)
 have hfree:lj f [a,.ptr s 0] [c]=true:=by
  simp only[lj,dc,du,tf,xS a p2,lr c hc.2.1,List.isEmpty_cons,Bool.not_false,am,km]
 simp only[ar,B5 p1,cE,hs,B7 p1,p2,aF,bK,hc.2.1,hcf,ao,aV,if_true,hfree,km]
 congr 1
 refine Prod.ext (hr.2.2.2.1 _ _) ?_
 ·have hrr:bB (fun k=>some (st.nx+k)) false c=c:=by
   exact hc.2.2 _ _
  simp only[hrr,dw]
  have ho:(fun k=>if k=s then some c else st.objs k)=st.objs:=by
   funext k
   split
   ·rename_i e;rw[e,hs]
   ·rfl
  rw[ho]
  rfl
theorem qA(K:gT cf)(hT:T f=some F)(hres:F.res=rs)(hown:F.own=false)(hnt:as.length≤F.nt)(has:∀ p∈as,cL p)(N:Nat){Q:PV→Prop}
  (h:Wp cf N F.body (eP as,cF [] []) (xN rs Q)):∃ r,Q r∧∃ fl,ar cf f as [] st=some (r,cQ st fl):=by
 obtain⟨e,⟨fr,s1⟩,hev,he,ho⟩:=h
 obtain⟨h1,h2⟩:=dR has
 subst hres
 revert ho
 generalize hps:ei fr s1 F.res=o1
 intro ho
 match o1,ho with
 |some ps0,ho=>
  obtain⟨hp,-,hQ⟩:=ho
  have hf:=sA (n:=0) (cs0:=[]) hown hps hp rfl rfl
  have hrun:ff cf N F as [] []=some (aA (eq ps0),[],[]):=by
   unfold ff
   rw[ai ⟨hnt,aY _⟩,hev]
   cases e with
   |go=>exact hf
   |ret=>exact hf
   |exit i=>exact he.elim
  have hcf:=K f F hT N _ _ _ _ hrun
  refine⟨_,hQ,(if ed (aA (eq ps0))||(mn f && as.all (tf fun _=>true))then st.fl else st.nx),?_⟩
  ·rw[oF h1 (by rw[h2];exact hcf)]
   congr 1
   refine Prod.ext (qT _ _ _) rfl
theorem IQ{o:Option (PV×St)}{mk:PV→St→Fr×St}{A:Fr×St→Prop}{Q:PV→List PV→Prop}{m:List PV→Nat→St}(h:∃ r c',Q r c'∧∃ fl,o=some (r,m c' fl))(k:∀ r c' fl,Q r c'→A (mk r (m c' fl))):cT o mk A:=by
 obtain⟨r,c',hQ,fl,rfl⟩:=h
 exact⟨_,_,rfl,k r c' fl hQ⟩
theorem zI{o:Option (PV×St)}{mk:PV→St→Fr×St}{A:Fr×St→Prop}{Q:PV→Prop}{m:Nat→St}(h:∃ r,Q r∧∃ fl,o=some (r,m fl))(k:∀ r fl,Q r→A (mk r (m fl))):cT o mk A:=by
 obtain⟨r,hQ,fl,rfl⟩:=h
 exact⟨_,_,rfl,k r fl hQ⟩
end
def Gr(e nx:Nat)(cnt:Nat→Nat)(n:Nat):ay→Prop
 | .nil=>n=0
 | .full e'=>e'=e∧n=0
 | .own k e'=>k<nx∧cnt k=n∧e'=e
 |_=>False
def g8(e:Nat)(t:ay)(st:St):ay:=match t with
 | .own k _=> .own k e
 |_=> .own st.nx e
def ic(t:ay)(st:St)(n:Nat):St:=match t with
 | .own k _=>st.count k n
 |_=>st.more [n]
def uo(e sz bytes:Nat)(x y:PV)(st:St):Option (PV×St):=match x,y with
 | .list n cs t,.list m ds _=>
  if gu st n t=true∧cs.length=n*sz∧ds.length=m*sz∧(n+m) *bytes≤dh∧n+m≤dh∧0<sz then
   match t with
   | .own k e'=>if e'=e then some (.list (n+m) (cs++ds) (.own k e),st.count k (n+m))else none
   | .full e'=>if e'=e∧(0<m∨n=0)then some (.list (n+m) (cs++ds) (.own st.nx e),st.more [n+m])else none
   |_=>some (.list (n+m) (cs++ds) (.own st.nx e),st.more [n+m])
  else none
 |_,_=>none
theorem uQ{e sz bytes n m:Nat}{cs ds:List PV}{t u:ay}{st:St}(h:Gr e st.nx st.cnt n t)(h1:cs.length=n*sz)(h2:ds.length=m*sz)(h3:(n+m) *bytes≤140737488355328)(h4:n+m≤140737488355328)(h5:0<sz):
  uo e sz bytes (.list n cs t) (.list m ds u) st=some (.list (n+m) (cs++ds) (g8 e t st),ic t st (n+m)):=by
 have hb:dh=140737488355328:=rfl
 cases t with
 |no=>exact h.elim
 |sub k=>exact h.elim
 |el k e n=>exact h.elim
 |nil=>
  have h:n=0:=h
  subst h
  simp[uo,gu,h1,h2,hb,h5,g8,ic]
  exact⟨by simpa using h3,by simpa using h4⟩
 |full e'=>
  obtain⟨h,hn⟩:e'=e∧n=0:=h
  subst h
  subst hn
  simp[uo,gu,h1,h2,hb,h5,g8,ic]
  exact⟨by simpa using h3,by simpa using h4⟩
 |own k e'=>
  obtain⟨ha,hb',rfl⟩:k<st.nx∧st.cnt k=n∧e'=e:=h
  simp[uo,gu,h1,h2,hb,h3,h4,h5,ha,hb',g8,ic]
theorem fa{e n m:Nat}{t:ay}{st:St}(h:Gr e st.nx st.cnt n t):Gr e (ic t st (n+m)).nx (ic t st (n+m)).cnt (n+m) (g8 e t st):=by
 cases t with
 |no=>exact h.elim
 |sub k=>exact h.elim
 |el k e n=>exact h.elim
 |nil=>exact⟨by simp[ic,St.more],by simp[ic,St.more],rfl⟩
 |full e'=>exact⟨by simp[ic,St.more],by simp[ic,St.more],rfl⟩
 |own k e'=>
  obtain⟨ha,hb',rfl⟩:k<st.nx∧st.cnt k=n∧e'=e:=h
  exact⟨by simpa [ic,St.count]using ha,by simp[ic,St.count],rfl⟩
theorem pK{e nx:Nat}{cnt:Nat→Nat}:Gr e nx cnt 0 (.full e):=⟨rfl,rfl⟩
theorem rp{t:ay}{st:St}{n:Nat}:(ic t st n).objs=st.objs:=by cases t<;>rfl
theorem GF{t:ay}{st:St}{n:Nat}:(ic t st n).maps=st.maps:=by cases t<;>rfl
def jb:ay→ay→Prop
 | .own k _,.own j _=>k≠j
 |_,_=>True
theorem iq{e e2 n n2 m:Nat}{t u:ay}{st:St}(h:Gr e st.nx st.cnt n t)(k:Gr e2 st.nx st.cnt n2 u)(ha:jb t u):Gr e2 (ic t st m).nx (ic t st m).cnt n2 u∧jb (g8 e t st) u:=by
 have go:∀ (t:ay),(match t with| .own _ _=>False|_=>True)→ic t st m=st.more [m]→g8 e t st= .own st.nx e→Gr e2 (ic t st m).nx (ic t st m).cnt n2 u∧jb (g8 e t st) u:=by
  intro t _ h1 h2
  rw[h1,h2]
  cases u with
  |own j e'=>
   obtain⟨ka,kb,rfl⟩:j<st.nx∧st.cnt j=n2∧e'=e2:=k
   refine⟨⟨by simp[St.more];omega,by simp[St.more,ka,kb],rfl⟩,?_⟩
   show st.nx≠j
   omega
  |no=>exact k.elim
  |sub k'=>exact k.elim
  |el k' e' n'=>exact k.elim
  |nil=>exact⟨k,trivial⟩
  |full e'=>exact⟨k,trivial⟩
 cases t with
 |no=>exact h.elim
 |sub k=>exact h.elim
 |el k e n=>exact h.elim
 |nil=>exact go .nil trivial rfl rfl
 |full e'=>exact go (.full e') trivial rfl rfl
 |own i e'=>
  cases u with
  |own j e''=>
   obtain⟨ka,kb,rfl⟩:j<st.nx∧st.cnt j=n2∧e''=e2:=k
   have ha:i≠j:=ha
   refine⟨⟨by simpa [ic,St.count]using ka,?_,rfl⟩,ha⟩
   simp only[ic,St.count]
   rw[ad (fun h=>ha h.symm)]
   exact kb
  |no=>exact k.elim
  |sub k'=>exact k.elim
  |el k' e' n'=>exact k.elim
  |nil=>exact⟨k,trivial⟩
  |full e''=>exact⟨k,trivial⟩
def rf(zs:List PV):List (Nat×Nat×PV)→Option (List PV)
 | []=>some zs
 |(al,sz,p)::rest=>match cellsOf p with
  |some cs=>if cs.length=sz∧al+sz≤zs.length then rf (putCells zs al cs) rest else none
  |none=>none
theorem v8(fr:Fr):∀ (ps:List (Nat×Nat×CX)) (zs:List PV),jh zs fr ps=rf zs (ps.map fun q=>(q.1,q.2.1,q.2.2.ev fr))
 | [],_=>rfl
 |(al,sz,x)::rest,zs=>by
  simp only[jh,aF,rf]
  cases cellsOf (x.ev fr)with
  |none=>rfl
  |some cs=>simp only[v8 fr rest]
def LO(o:Option (List PV))(st:St):Option (PV×St):=match o with
 |some cs=>some (.agg cs,st)
 |none=>none
def LK(e sz n:Nat)(zs:List PV)(o:Option (List PV))(st:St):Option (PV×St):=match o with
 |some cs=>if zs.length=sz∧0<sz then some (.list n cs (.full e),st)else none
 |none=>none
def Dw(sz s al:Nat)(vs cs:Option (List PV))(st:St):Option (PV×St):=match vs,cs with
 |some vs,some cs=>if vs.length=sz∧al+sz≤cs.length then some (.hole,bU st s (putCells cs al vs))else none
 |_,_=>none
theorem E2{sz s al:Nat}{x:PV}{st:St}:wz sz (.ptr s al) x st=Dw sz s al (cellsOf x) (st.objs s) st:=by
 simp only[wz,Dw]
 cases cellsOf x with
 |none=>rfl
 |some vs=>cases h:st.objs s<;>simp only[h]
theorem HL{sz s al:Nat}{ag:Bool}{st:St}:xa sz ag (.ptr s al) st=(tL (st.objs s) al sz ag).map fun p=>(p,st):=by
 simp only[xa,tL]
 cases h:st.objs s<;>simp only[]<;>rfl
def EJ(x:PV)(st:St):Option (PV×St):=match x with
 | .list n cs _=>match qB cs with
  |some bs=>if bs.length=n then some (.str ⟨bs.toArray⟩,st)else none
  |none=>none
 |_=>none
def s7(l:List UInt8):List PV:=l.map fun c=>U (c.toNat:Int)
theorem EE(l:List UInt8):qB (s7 l)=some l:=by
 unfold s7
 induction l with
 |nil=>rfl
 |cons c l ih=>simp[qB,ih]
theorem Bx{l:List UInt8}{n:Nat}{t:ay}{st:St}(h:n=l.length):EJ (.list n (s7 l) t) st=some (S l,st):=by
 simp[EJ,EE,h]
theorem lX(l:List UInt8):(s7 l).length=l.length:=by simp[s7]
theorem wm(l:List UInt8)(c:UInt8):s7 l++[U (c.toNat:Int)]=s7 (l++[c]):=by simp[s7]
def DD(sz:Nat)(x:PV)(lo hi:Option PV)(st:St):Option (PV×St):=match x with
 | .list n cs t=>match (match (match hi with|some x=>kj x n|none=>some n)with
   |none=>none
   |some h=>match (match lo with|some x=>kj x h|none=>some 0)with
    |none=>none
    |some l=>some (l,h))with
  |some (l,h)=>if cs.length=n*sz then some (.list (h-l) ((cs.drop (l*sz)).take ((h-l) *sz)) (t.cut lo.isNone n h),st)else none
  |none=>none
 |_=>none
theorem wX{c:PV}{cs:List PV}:bT (c::cs) 0 1 false=some c:=by
 simp[bT]
theorem DT{c:PV}{cs:List PV}{n sz:Nat}{ag:Bool}:bT (c::cs) (n+1) sz ag=bT cs n sz ag:=by
 unfold bT
 simp only[ao,List.drop_succ_cons,af]
 have:n+1+sz≤cs.length+1↔n+sz≤cs.length:=by omega
 simp only[this]
theorem DS{cs:List PV}{sz:Nat}:bT cs 0 sz true=if sz≤cs.length then some (.agg (cs.take sz))else none:=by
 simp[bT]
theorem sY{cs vs:List PV}{v:PV}{al:Nat}:putCells cs al (v::vs)=putCells (cs.set al v) (al+1) vs:=rfl
theorem tx:∀ (vs as cs:List PV),vs.length=cs.length→putCells (as++cs) as.length vs=as++vs
 | [],as,[],_=>rfl
 |v::vs,as,c::cs,h=>by
  rw[sY]
  have:(as++c::cs).set as.length v=(as++[v])++cs:=by simp
  rw[this]
  have h2:=tx vs (as++[v]) cs (by simpa using h)
  rw[ak]at h2
  simp only[ao,aV,bg]at h2
  rw[h2]
  simp
theorem ke{vs cs:List PV}(h:vs.length=cs.length):putCells cs 0 vs=vs:=by
 have:=tx vs [] cs h
 simpa using this
theorem bM:
  (∀ {cf:au} {fr:Fr} {st:St} {d:Option Nat} {zs:List PV} {ps:List (Nat×Nat×CX)},ap cf fr st d (.build zs ps)=LO (rf zs (ps.map fun q=>(q.1,q.2.1,q.2.2.ev fr))) st)∧
  (∀ {cf:au} {fr:Fr} {st:St} {d:Option Nat} {e sz n:Nat} {zs:List PV} {ps:List (Nat×Nat×CX)},ap cf fr st d (.bsl e sz zs n ps)=LK e sz n zs (rf (List.replicate n zs).flatten (ps.map fun q=>(q.1,q.2.1,q.2.2.ev fr))) st)∧
  (∀ {cf:au} {fr:Fr} {st:St} {d:Option Nat} {e sz b:Nat} {x y:CX},ap cf fr st d (.app e sz b x y)=uo e sz b (x.ev fr) (y.ev fr) st)∧
  (∀ {cf:au} {fr:Fr} {st:St} {d:Option Nat} {x:CX},ap cf fr st d (.b2s x)=EJ (x.ev fr) st)∧
  (∀ {cf:au} {fr:Fr} {st:St} {d:Option Nat} {sz:Nat} {x:CX},ap cf fr st d (.slc sz x none none)=DD sz (x.ev fr) none none st)∧
  (∀ {cf:au} {fr:Fr} {st:St} {d:Option Nat} {sz:Nat} {x a:CX},ap cf fr st d (.slc sz x (some a) none)=DD sz (x.ev fr) (some (a.ev fr)) none st)∧
  (∀ {cf:au} {fr:Fr} {st:St} {d:Option Nat} {sz:Nat} {x b:CX},ap cf fr st d (.slc sz x none (some b))=DD sz (x.ev fr) none (some (b.ev fr)) st)∧
  (∀ {cf:au} {fr:Fr} {st:St} {d:Option Nat} {sz:Nat} {x a b:CX},ap cf fr st d (.slc sz x (some a) (some b))=DD sz (x.ev fr) (some (a.ev fr)) (some (b.ev fr)) st):=by
 refine⟨?_,?_,?_,?_,?_,?_,?_,?_⟩
 ·intros;simp only[ap,v8];rfl
 ·intros;simp only[ap,v8];rfl
 all_goals (intros;rfl)
theorem aj:
  (∀ {sz s al:Nat} {x:PV} {st:St},wz sz (.ptr s al) x st=Dw sz s al (cellsOf x) (st.objs s) st)∧
  (∀ {sz s al:Nat} {ag:Bool} {st:St},xa sz ag (.ptr s al) st=(tL (st.objs s) al sz ag).map fun p=>(p,st))∧
  (∀ {sz s al:Nat} {vs cs:List PV} {st:St},Dw sz s al (some vs) (some cs) st=if vs.length=sz∧al+sz≤cs.length then some (.hole,bU st s (putCells cs al vs))else none)∧
  (∀ {cs:List PV} {al sz:Nat} {ag:Bool},tL (some cs) al sz ag=bT cs al sz ag)∧
  (∀ {c:PV} {cs:List PV},bT (c::cs) 0 1 false=some c)∧(∀ {c:PV} {cs:List PV} {n sz:Nat} {ag:Bool},bT (c::cs) (n+1) sz ag=bT cs n sz ag)∧
  (∀ {cs:List PV} {sz:Nat},bT cs 0 sz true=if sz≤cs.length then some (.agg (cs.take sz))else none)∧
  (∀ {cs:List PV},cellsOf (.agg cs)=some cs)∧(∀ {k:IntKind} {n:Int},cellsOf (.int k n)=some [.int k n])∧(∀ {b:Bool},cellsOf (.bool b)=some [.bool b])∧(∀ {s:ByteArray},cellsOf (.str s)=some [.str s])∧(∀ {n:Nat} {cs:List PV} {t:ay},cellsOf (.list n cs t)=some [.list n cs t])∧
  (∀ {cs st},LO (some cs) st=some (.agg cs,st))∧(∀ {e sz n:Nat} {zs cs:List PV} {st:St},LK e sz n zs (some cs) st=if zs.length=sz∧0<sz then some (.list n cs (.full e),st)else none)∧
  (∀ {zs:List PV},rf zs []=some zs)∧(∀ {zs:List PV} {al sz:Nat} {p:PV} {rest:List (Nat×Nat×PV)},rf zs ((al,sz,p)::rest)=match cellsOf p with|some cs=>if cs.length=sz∧al+sz≤zs.length then rf (putCells zs al cs) rest else none|none=>none)∧
  (∀ {cs:List PV} {al:Nat},putCells cs al []=cs)∧(∀ {cs vs:List PV} {v:PV} {al:Nat},putCells cs al (v::vs)=putCells (cs.set al v) (al+1) vs)∧
  (∀ {c v:PV} {cs:List PV},(c::cs).set 0 v=v::cs)∧(∀ {c v:PV} {cs:List PV} {n:Nat},(c::cs).set (n+1) v=c::cs.set n v)∧
  (∀ {zs:List PV},(List.replicate 1 zs).flatten=zs)∧(∀ {zs:List PV},(List.replicate 2 zs).flatten=zs++zs)∧
  (∀ {cs:List PV},cs.take 0=[])∧(∀ {c:PV} {cs:List PV} {n:Nat},(c::cs).take (n+1)=c::cs.take n)∧(∀ {n:Nat},([]:List PV).take n=[])∧
  (([]:List PV).length=0)∧(∀ {c:PV} {cs:List PV},(c::cs).length=cs.length+1)∧
  (∀ {vs:List PV},([]++vs)=vs)∧(∀ {v:PV} {vs ws:List PV},((v::vs)++ws)=v::(vs++ws))∧
  (∀ {t:ay} {st:St} {n:Nat},(ic t st n).objs=st.objs)∧(∀ {t:ay} {st:St} {n:Nat},(ic t st n).maps=st.maps)∧
  (∀ {st:St} {v:Nat},(cQ st v).objs=st.objs)∧(∀ {st:St} {v:Nat},(cQ st v).maps=st.maps)∧(∀ {st:St} {v:Nat},(cQ st v).nx=st.nx)∧(∀ {st:St} {v:Nat},(cQ st v).cnt=st.cnt):=by
 refine⟨E2,HL,rfl,rfl,wX,DT,DS,rfl,rfl,rfl,rfl,rfl,rfl,rfl,rfl,rfl,rfl,rfl,rfl,rfl,?_,?_,?_,?_,?_,?_,?_,?_,?_,rp,GF,rfl,rfl,rfl,rfl⟩<;>intros<;>first|rfl|simp[List.replicate]
theorem r7{fr:Fr}{st:St}{r:gr}{rs:List gr}:ei fr st (r::rs)=sF (lw fr st r) (ei fr st rs):=by
 simp only[ei]
 cases lw fr st r<;>cases ei fr st rs<;>rfl
theorem ep{n:Nat}{cs:List PV}{t:ay}:aA (.list n cs t)= .list n (aB cs) .no:=by
 simp only[aA,aB,ren]
 cases t<;>rfl
theorem av:
  (∀ {rs:List gr} {Q:PV→List PV→Prop} {fr:Fr} {st:St},ER rs Q .ret (fr,st)↔vP Q (ei fr st rs) (st.objs 0))∧
  (∀ {rs:List gr} {Q:PV→List PV→Prop} {fr:Fr} {st:St},ER rs Q .go (fr,st)↔vP Q (ei fr st rs) (st.objs 0))∧
  (∀ {rs:List gr} {Q:PV→Prop} {fr:Fr} {st:St},xN rs Q .ret (fr,st)↔vP (fun p _=>Q p) (ei fr st rs) (some []))∧
  (∀ {rs:List gr} {Q:PV→Prop} {fr:Fr} {st:St},xN rs Q .go (fr,st)↔vP (fun p _=>Q p) (ei fr st rs) (some []))∧
  (∀ {Q:PV→List PV→Prop} {ps c:List PV},vP Q (some ps) (some c)↔(gM ps=true∧aG c=true∧Q (aA (eq ps)) (aB c)))∧
  (∀ {fr:Fr} {st:St},ei fr st []=some [])∧(∀ {fr:Fr} {st:St} {r:gr} {rs:List gr},ei fr st (r::rs)=sF (lw fr st r) (ei fr st rs))∧
  (∀ {p:PV} {ps:List PV},sF (some p) (some ps)=some (p::ps))∧
  (∀ {fr:Fr} {st:St} {t:Nat},lw fr st (.tmp t)=some (fr t))∧(∀ {fr:Fr} {st:St} {a sz:Nat} {ag:Bool},lw fr st (.cell a sz ag)=sI (fr a) sz ag st)∧
  (∀ {s al sz:Nat} {ag:Bool} {st:St},sI (.ptr s al) sz ag st=tL (st.objs s) al sz ag)∧
  (gM []=true)∧(∀ {p:PV} {ps:List PV},gM (p::ps)=(np p && jv p && gM ps))∧
  (∀ {p:PV},eq [p]=p)∧(∀ {p q:PV} {ps:List PV},eq (p::q::ps)= .tup (p::q::ps))∧
  (∀ {k:IntKind} {n:Int},jv (.int k n)=true)∧(∀ {b:Bool},jv (.bool b)=true)∧(∀ {s:ByteArray},jv (.str s)=true)∧(∀ {cs:List PV},jv (.agg cs)=true)∧(∀ {n:Nat} {cs:List PV} {t:ay},jv (.list n cs t)=true)∧
  (∀ {k:IntKind} {n:Int},np (.int k n)=true)∧(∀ {b:Bool},np (.bool b)=true)∧(∀ {s:ByteArray},np (.str s)=true)∧(∀ {cs:List PV},np (.agg cs)=aG cs)∧(∀ {n:Nat} {cs:List PV} {t:ay},np (.list n cs t)=aG cs)∧(np .nili=true)∧(np .err=true)∧
  (aG []=true)∧(∀ {p:PV} {ps:List PV},aG (p::ps)=(np p && aG ps))∧
  (∀ {k:IntKind} {n:Int},aA (.int k n)= .int k n)∧(∀ {b:Bool},aA (.bool b)= .bool b)∧(∀ {s:ByteArray},aA (.str s)= .str s)∧(∀ {cs:List PV},aA (.agg cs)= .agg (aB cs))∧(∀ {cs:List PV},aA (.tup cs)= .tup (aB cs))∧(∀ {n:Nat} {cs:List PV} {t:ay},aA (.list n cs t)= .list n (aB cs) .no)∧
  (aB []=[])∧(∀ {p:PV} {ps:List PV},aB (p::ps)=aA p::aB ps)∧
  (∀ {ns:List Nat} {c:List PV} {cs:List (List PV)},(cF ns (c::cs)).objs 0=some c):=by
 refine⟨?_,?_,?_,?_,?_,?_,r7,?_,?_,?_,?_,?_,?_,?_,?_,?_,?_,?_,?_,?_,?_,?_,?_,?_,?_,?_,?_,?_,?_,?_,?_,?_,?_,?_,ep,?_,?_,?_⟩<;>intros<;>first|rfl|(simp only[ER,xN,iA,true_and])
def WK(cf:au)(chk:List (Nat×Nat))(acc:List (List Nat))(os:List bz)(x:Fr×St)(K:Fr×St→Prop):Prop:=
 ∃ ks y,gt cf os x=some (ks,y)∧chk.all (lI (acc++ks))=true∧K y
def FB(b:Bool)(A:Prop):Prop:=b=true∧A
section
variable {cf:au} {N:Nat} {fr:Fr} {st:St} {chk:List (Nat×Nat)} {acc:List (List Nat)}
theorem KC{os:List bz}{q:Nat×Nat}{Q:Ex→Fr×St→Prop}:Wp cf N (.reg os (q::chk)) (fr,st) Q↔WK cf (q::chk) [] os (fr,st) (Q .go):=by
 unfold Wp WK
 simp only[ev,pV,bf]
 cases h:gt cf os (fr,st)with
 |none=>simp
 |some z=>
  obtain⟨ks,y⟩:=z
  simp only
  constructor
  ·rintro⟨e,y',h,hq⟩
   split at h
   ·rename_i hc
    simp only[cp,aZ,bE]at h
    obtain⟨rfl,rfl⟩:=h
    exact⟨ks,y,rfl,hc,hq⟩
   ·simp at h
  ·rintro⟨ks',y',h,hc,hq⟩
   simp only[aZ,bE]at h
   obtain⟨rfl,rfl⟩:=h
   rw[ai hc]
   exact⟨.go,y,rfl,hq⟩
theorem LT{K:Fr×St→Prop}:WK cf chk acc [] (fr,st) K↔FB (chk.all (lI acc)) (dC K (fr,st)):=by
 unfold WK FB dC
 simp only[gt]
 constructor
 ·rintro⟨ks,y,h,hc,hk⟩
  cases h
  rw[aO]at hc
  exact⟨hc,hk⟩
 ·rintro⟨hc,hk⟩
  exact⟨[],_,rfl,by rw[aO];exact hc,hk⟩
theorem wr{o:bz}{os:List bz}{x:Fr×St}{K:Fr×St→Prop}:
  WK cf chk acc (o::os) x K↔∃ y,cG cf o x=some y∧WK cf chk (acc++[aW x.1 o.op]) os y K:=by
 unfold WK
 simp only[gt]
 constructor
 ·rintro⟨ks,y,h,hc,hk⟩
  split at h
  ·rename_i z hz
   refine⟨z,hz,?_⟩
   split at h
   ·rename_i hz'
    cases h
    exact⟨_,_,hz',by rw[cK];exact hc,hk⟩
   ·cases h
  ·cases h
 ·rintro⟨y,hy,ks,z,hz,hc,hk⟩
  rw[hy]
  simp only[hz]
  exact⟨_,_,rfl,by rw[cK]at hc;exact hc,hk⟩
theorem KG{d:Option Nat}{op:dG}{os:List bz}{K:Fr×St→Prop}:
  WK cf chk acc (⟨none,d,op⟩::os) (fr,st) K↔cT (ap cf fr st d op) (fun v st'=>(put (cn cf op d st fr) d v,st')) (fun y=>WK cf chk (acc++[aW fr op]) os y K):=by
 rw[wr]
 have h:=yq (cf:=cf) (fr:=fr) (st:=st) (d:=d) (op:=op) (os:=[]) (K:=fun y=>WK cf chk (acc++[aW fr op]) os y K)
 simp only[WO,gD,cT]at h ⊢
 rw[←(show(∃ y,(match cG cf ⟨none,d,op⟩ (fr,st)with|some y=>some y|none=>none)=some y∧WK cf chk (acc++[aW fr op]) os y K)↔∃ y,cG cf ⟨none,d,op⟩ (fr,st)=some y∧WK cf chk (acc++[aW fr op]) os y K by
  constructor<;>rintro⟨y,h,k⟩<;>refine⟨y,?_,k⟩<;>revert h<;>cases cG cf ⟨none,d,op⟩ (fr,st)<;>simp)]
 constructor
 ·intro hh
  obtain⟨v,st',h1,y,h2,h3⟩:=h.1 hh
  cases h2
  exact⟨v,st',h1,h3⟩
 ·rintro⟨v,st',h1,h3⟩
  exact h.2 ⟨v,st',h1,_,rfl,h3⟩
theorem IN{s:Nat}{b:Bool}{d:Option Nat}{op:dG}{os:List bz}{K:Fr×St→Prop}:
  WK cf chk acc (⟨some (s,b),d,op⟩::os) (fr,st) K↔zx (fr s) b (dC (fun y=>WK cf chk acc (⟨none,d,op⟩::os) y K) (fr,st)) (dC (fun y=>WK cf chk (acc++[aW fr op]) os y K) (put fr d .hole,st)):=by
 simp only[dC]
 rw[wr]
 have hW:=wr (cf:=cf) (chk:=chk) (acc:=acc) (o:=⟨none,d,op⟩) (os:=os) (x:=(fr,st)) (K:=K)
 rw[hW]
 clear hW
 unfold zx
 simp only[cG,dQ]
 generalize fr s=p
 cases p with
 |bool b'=>
  cases b<;>cases b'<;>simp[jD]
 |hole=>simp
 |_=>simp
end
theorem dV:
  (∀ {cf:au} {N:Nat} {fr:Fr} {st:St} {os:List bz} {q:Nat×Nat} {chk:List (Nat×Nat)} {Q:Ex→Fr×St→Prop},Wp cf N (.reg os (q::chk)) (fr,st) Q↔WK cf (q::chk) [] os (fr,st) (Q .go))∧
  (∀ {cf:au} {chk:List (Nat×Nat)} {acc:List (List Nat)} {fr:Fr} {st:St} {K:Fr×St→Prop},WK cf chk acc [] (fr,st) K↔FB (chk.all (lI acc)) (dC K (fr,st)))∧
  (∀ {cf:au} {chk:List (Nat×Nat)} {acc:List (List Nat)} {fr:Fr} {st:St} {d:Option Nat} {op:dG} {os:List bz} {K:Fr×St→Prop},
   WK cf chk acc (⟨none,d,op⟩::os) (fr,st) K↔cT (ap cf fr st d op) (fun v st'=>(put (cn cf op d st fr) d v,st')) (fun y=>WK cf chk (acc++[aW fr op]) os y K))∧
  (∀ {cf:au} {chk:List (Nat×Nat)} {acc:List (List Nat)} {fr:Fr} {st:St} {s:Nat} {b:Bool} {d:Option Nat} {op:dG} {os:List bz} {K:Fr×St→Prop},
   WK cf chk acc (⟨some (s,b),d,op⟩::os) (fr,st) K↔zx (fr s) b (dC (fun y=>WK cf chk acc (⟨none,d,op⟩::os) y K) (fr,st)) (dC (fun y=>WK cf chk (acc++[aW fr op]) os y K) (put fr d .hole,st)))∧
  (∀ {f:Fr×St→Prop} {x:Fr×St},FB true (dC f x)↔f x):=
 ⟨KC,LT,KG,IN,by simp[FB,dC]⟩
theorem cS:
  (∀ {fr:Fr} {x:CX},aW fr (.mv x)=[])∧(∀ {fr:Fr} {a b c:CX},aW fr (.pick a b c)=[])∧(∀ {fr:Fr} {zs:List PV},aW fr (.alloc zs)=[])∧(∀ {fr:Fr} {n:Nat} {x:CX},aW fr (.box n x)=[])∧
  (∀ {fr:Fr} {zs:List PV} {ps:List (Nat×Nat×CX)},aW fr (.build zs ps)=[])∧(∀ {fr:Fr} {e sz n:Nat} {zs:List PV} {ps:List (Nat×Nat×CX)},aW fr (.bsl e sz zs n ps)=[])∧
  (∀ {fr:Fr} {sz:Nat} {ag:Bool} {x:CX},aW fr (.load sz ag x)=kI (x.ev fr))∧(∀ {fr:Fr} {sz:Nat} {x y:CX},aW fr (.store sz x y)=kI (x.ev fr))∧
  (∀ {fr:Fr} {x:CX},aW fr (.nck x)=[])∧(∀ {fr:Fr} {op:BinOp} {x y:CX},aW fr (.bin op x y)=[])∧(∀ {fr:Fr} {b:Bool} {x:CX},aW fr (.isnil b x)=[])∧(∀ {fr:Fr} {b:Bool} {x y:CX},aW fr (.beq b x y)=[])∧
  (∀ {fr:Fr} {op:UnOp} {x:CX},aW fr (.un op x)=[])∧(∀ {fr:Fr} {k:IntKind} {x:CX},aW fr (.toInt k x)=[])∧(∀ {fr:Fr} {x:CX},aW fr (.s2s x)=[])∧(∀ {fr:Fr} {x:CX} {i:Nat},aW fr (.ext x i)=[])∧
  (∀ {fr:Fr} {o:Nat} {x:CX},aW fr (.fad o x)=[])∧(∀ {fr:Fr} {o sz:Nat} {ag:Bool} {x:CX},aW fr (.fld o sz ag x)=[])∧(∀ {fr:Fr} {sz:Nat} {x y:CX},aW fr (.iad sz x y)=[])∧(∀ {fr:Fr} {x y:CX},aW fr (.sidx x y)=[])∧
  (∀ {fr:Fr} {x:CX} {l h:Option CX},aW fr (.ssl x l h)=[])∧(∀ {fr:Fr} {sz:Nat} {x:CX} {l h:Option CX},aW fr (.slc sz x l h)=[])∧(∀ {fr:Fr} {x:CX},aW fr (.slen x)=[])∧(∀ {fr:Fr} {x:CX},aW fr (.len x)=[])∧
  (∀ {fr:Fr} {e sz b:Nat} {x y:CX},aW fr (.app e sz b x y)=[])∧(∀ {fr:Fr} {x:CX},aW fr (.b2s x)=[])∧(∀ {fr:Fr} {e sz b:Nat} {zs:List PV} {n c:CX},aW fr (.mks e sz b zs n c)=[])∧(∀ {fr:Fr} {e sz b:Nat} {n c:CX},aW fr (.mk0 e sz b n c)=[])∧
  (∀ {fr:Fr} {f:Nat} {as:List CX} {mv:List Nat},aW fr (.call f as mv)=(ch (as.map (·.ev fr))).getD (ol (as.map (·.ev fr))))∧
  (∀ {s o:Nat},kI (.ptr s o)=[s])∧(∀ {cs:List PV} {o:Nat} {t:ay},kI (.iptr cs o t)=[])∧(kI .hole=[])∧(kI .any=[])∧
  (∀ {l l':List Nat},(some l).getD l'=l)∧(∀ {k:IntKind} {n:Int} {ps:List PV},ch (.int k n::ps)=ch ps)∧(∀ {s:ByteArray} {ps:List PV},ch (.str s::ps)=ch ps)∧(∀ {b:Bool} {ps:List PV},ch (.bool b::ps)=ch ps)∧(∀ {ps:List PV},ch (.hole::ps)=ch ps)∧(ch []=some [])∧
  (∀ {as:List (List Nat)},[]++as=as)∧(∀ {a:List Nat} {as bs:List (List Nat)},(a::as)++bs=a::(as++bs)):=by
 refine⟨?_,?_,?_,?_,?_,?_,?_,?_,?_,?_,?_,?_,?_,?_,?_,?_,?_,?_,?_,?_,?_,?_,?_,?_,?_,?_,?_,?_,?_,?_,?_,?_,?_,?_,?_,?_,?_,?_,?_,?_,?_⟩<;>intros<;>rfl
theorem fS:(∀ {ks:List (List Nat)},List.all [] (lI ks)=true)∧(∀ {ks:List (List Nat)} {q:Nat×Nat} {qs:List (Nat×Nat)},List.all (q::qs) (lI ks)=(lI ks q && List.all qs (lI ks)))∧
  (∀ {ks:List (List Nat)} {i j:Nat},lI ks (i,j)=((ks[i]?).getD []).all fun k=>!((ks[j]?).getD []).contains k)∧(∀ {f:Nat→Bool},List.all [] f=true)∧(∀ {f:Nat→Bool} {k:Nat} {ks:List Nat},List.all (k::ks) f=(f k && List.all ks f))∧
  (∀ {k:Nat},([]:List Nat).contains k=false)∧(∀ {k j:Nat} {ks:List Nat},(j::ks).contains k=(decide (k=j)||ks.contains k)):=by
 refine⟨rfl,rfl,rfl,rfl,rfl,rfl,?_⟩
 intros k j ks
 rw[List.contains_cons]
 congr 1
mutual
theorem mD(f:Nat→Option Nat)(h:Nat→Nat):∀ p:PV,(∀ q∈aq p,f q.1=some (h q.1))→aq (ren f false p)=(aq p).map fun q=>(h q.1,q.2)
 | .list n cs t,hf=>by
  have ih:=lq f h cs fun q hq=>hf q (by simp only[aq,ax];exact .inr hq)
  simp only[ren,aq,ih,bS]
  congr 1
  cases t with
  |own k e=>
   have:=hf (k,n) (by simp[aq])
   simp only at this
   simp[ay.ren,this]
  |sub k=>
   simp only[ay.ren]
   cases f k<;>rfl
  |el k e n=>
   simp only[ay.ren]
   cases f k<;>rfl
  |_=>rfl
 | .iptr cs o t,hf=>by
  have ih:=lq f h cs hf
  simp only[ren,aq,ih]
 | .agg cs,hf=>by
  have ih:=lq f h cs hf
  simp only[ren,aq,ih]
 | .tup cs,hf=>by
  have ih:=lq f h cs hf
  simp only[ren,aq,ih]
 | .fn g cs,hf=>by
  have ih:=lq f h cs hf
  simp only[ren,aq,ih]
 | .any,_| .hole,_| .int _ _,_| .bool _,_| .str _,_| .nilp,_| .nili,_| .err,_| .ptr _ _,_| .osl _ _ _ _,_| .mp _,_=>rfl
theorem lq(f:Nat→Option Nat)(h:Nat→Nat):∀ ps:List PV,(∀ q∈aw ps,f q.1=some (h q.1))→aw (bB f false ps)=(aw ps).map fun q=>(h q.1,q.2)
 | [],_=>rfl
 |p::ps,hf=>by
  simp only[bB,aw,bS]
  rw[mD f h p fun q hq=>hf q (by simp only[aw,ax];exact .inl hq),lq f h ps fun q hq=>hf q (by simp only[aw,ax];exact .inr hq)]
end
mutual
theorem hO(f:Nat→Option Nat):∀ p:PV,aA (ren f false p)=aA p
 | .list n cs t=>by
  have ih:=gA f cs
  simp only[aA,aB,ren]at ih ⊢
  rw[ih]
  congr 1
  cases t with
  |own k e=>simp only[ay.ren];cases f k<;>rfl
  |sub k=>simp only[ay.ren];cases f k<;>rfl
  |el k e n=>simp only[ay.ren];cases f k<;>rfl
  |_=>rfl
 | .iptr cs o t=>by
  have ih:=gA f cs
  simp only[aA,aB,ren]at ih ⊢
  rw[ih]
  congr 1
  cases t with
  |own k e=>simp only[ay.ren];cases f k<;>rfl
  |sub k=>simp only[ay.ren];cases f k<;>rfl
  |el k e n=>simp only[ay.ren];cases f k<;>rfl
  |_=>rfl
 | .agg cs=>by
  have ih:=gA f cs
  simp only[aA,aB,ren]at ih ⊢
  rw[ih]
 | .tup cs=>by
  have ih:=gA f cs
  simp only[aA,aB,ren]at ih ⊢
  rw[ih]
 | .fn g cs=>by
  have ih:=gA f cs
  simp only[aA,aB,ren]at ih ⊢
  rw[ih]
 | .any| .hole| .int _ _| .bool _| .str _| .nilp| .nili| .err| .ptr _ _| .osl _ _ _ _| .mp _=>rfl
theorem gA(f:Nat→Option Nat):∀ ps:List PV,aB (bB f false ps)=aB ps
 | []=>rfl
 |p::ps=>by
  have h1:=hO f p
  have h2:=gA f ps
  simp only[aA,aB,bB]at h1 h2 ⊢
  rw[h1,h2]
end
def ck(k:Nat):List (Nat×Nat)→Nat
 | []=>0
 |q::l=>(if q.1=k then 1 else 0)+ck k l
theorem bW(k:Nat):∀ a b:List (Nat×Nat),ck k (a++b)=ck k a+ck k b
 | [],b=>by simp[ck]
 |q::a,b=>by rw[aM,ck,ck,bW k a b];omega
theorem ja{k:Nat}:∀ {l:List (Nat×Nat)},0<ck k l↔∃ q∈l,q.1=k
 | []=>by simp[ck]
 |q::l=>by
  rw[ck]
  have ih:= @ja k l
  by_cases h:q.1=k
  ·simp[h];omega
  ·rw[ad h,bg,ih];simp[h]
theorem pH{k:Nat}{l:List (Nat×Nat)}(h:∀ q∈l,q.1≠k):ck k l=0:=by
 have:= @ja k l
 by_cases h0:0<ck k l
 ·obtain⟨q,hq,he⟩:=this.1 h0
  exact absurd he (h q hq)
 ·omega
theorem m7:∀ {l:List (Nat×Nat)},(∀ k,ck k l≤1)→oP (l.map (·.1))=true
 | [],_=>rfl
 |q::l,h=>by
  simp only[aF,oP,aa,gO]
  refine⟨?_,m7 fun k=>?_⟩
  ·have h1:=h q.1
   rw[ck,ai rfl]at h1
   cases hc:(l.map (·.1)).contains q.1 with
   |false=>rfl
   |true=>
    obtain⟨x,hx,he⟩:=cq.1 (dB.1 hc)
    have:=ja.2 ⟨x,hx,he⟩
    omega
  ·have h1:=h k
   rw[ck]at h1
   omega
mutual
def aH:PV→Bool
 | .list _ cs t=>(match t with| .own _ _=>true| .sub _=>false| .el .. =>false|_=>cs.isEmpty) && bc cs
 | .agg cs=>bc cs
 | .tup cs=>bc cs
 | .fn _ cs=>bc cs
 | .iptr .. =>false
 |_=>true
def bc:List PV→Bool
 | []=>true
 |p::ps=>aH p && bc ps
end
mutual
theorem nu:∀ p:PV,aH p=true→ed p=true
 | .list n cs t,h=>by
  simp only[aH,aa]at h
  simp only[ed,aa]
  refine⟨?_,kT cs h.2⟩
  cases t<;>simp_all [ay.of]
 | .agg cs,h=>by simp only[aH]at h;simp only[ed];exact kT cs h
 | .tup cs,h=>by simp only[aH]at h;simp only[ed];exact kT cs h
 | .fn _ cs,h=>by simp only[aH]at h;simp only[ed];exact kT cs h
 | .iptr ..,h=>by simp[aH]at h
 | .any,_| .hole,_| .int _ _,_| .bool _,_| .str _,_| .nilp,_| .nili,_| .err,_| .ptr _ _,_| .osl _ _ _ _,_| .mp _,_=>rfl
theorem kT:∀ ps:List PV,bc ps=true→eg ps=true
 | [],_=>rfl
 |p::ps,h=>by
  simp only[bc,aa]at h
  simp only[eg,nu p h.1,kT ps h.2,am]
end
mutual
theorem vD(K:Nat→Bool):∀ p:PV,aH p=true→(∀ q∈aq p,K q.1=false)→tf K p=true
 | .list n cs t,h,hk=>by
  simp only[aH,aa]at h
  simp only[tf,aa]
  refine⟨?_,kq K cs h.2 fun q hq=>hk q (by simp only[aq,ax];exact .inr hq)⟩
  cases t with
  |own k e=>have:=hk (k,n) (by simp[aq]);simp only[ay.free,ay.of];simp_all
  |sub k=>simp at h
  |el k e n=>simp at h
  |no=>rfl
  |nil=>rfl
  |full e=>rfl
 | .agg cs,h,hk=>by simp only[aH]at h;simp only[tf];exact kq K cs h hk
 | .tup cs,h,hk=>by simp only[aH]at h;simp only[tf];exact kq K cs h hk
 | .fn _ cs,h,hk=>by simp only[aH]at h;simp only[tf];exact kq K cs h hk
 | .iptr ..,h,_=>by simp[aH]at h
 | .any,_,_| .hole,_,_| .int _ _,_,_| .bool _,_,_| .str _,_,_| .nilp,_,_| .nili,_,_| .err,_,_| .ptr _ _,_,_| .osl _ _ _ _,_,_| .mp _,_,_=>rfl
theorem kq(K:Nat→Bool):∀ ps:List PV,bc ps=true→(∀ q∈aw ps,K q.1=false)→dT K ps=true
 | [],_,_=>rfl
 |p::ps,h,hk=>by
  simp only[bc,aa]at h
  simp only[dT,vD K p h.1 fun q hq=>hk q (by simp only[aw,ax];exact .inl hq),kq K ps h.2 fun q hq=>hk q (by simp only[aw,ax];exact .inr hq),am]
end
mutual
theorem lu(f:Nat→Option Nat):∀ p:PV,aH p=true→(∀ q∈aq p,(f q.1).isSome=true)→aH (ren f false p)=true
 | .list n cs t,h,hk=>by
  simp only[aH,aa]at h
  rw[gW]
  simp only[aH,aa]
  refine⟨?_,k8 f cs h.2 fun q hq=>hk q (by simp only[aq,ax];exact .inr hq)⟩
  have he:(bB f false cs).isEmpty=cs.isEmpty:=by cases cs<;>rfl
  cases t with
  |own k e=>
   have h1:=hk (k,n) (by simp[aq])
   obtain⟨k',hk'⟩:=bR.1 h1
   simp only[ay.ren,show f k=some k' from hk']
  |sub k=>simp at h
  |el k e n=>simp at h
  |no=>simp only[ay.ren,he];exact h.1
  |nil=>simp only[ay.ren,he];exact h.1
  |full e=>simp only[ay.ren,he];exact h.1
 | .agg cs,h,hk=>by simp only[aH]at h;simp only[ren,aH];exact k8 f cs h hk
 | .tup cs,h,hk=>by simp only[aH]at h;simp only[ren,aH];exact k8 f cs h hk
 | .fn _ cs,h,hk=>by simp only[aH]at h;simp only[ren,aH];exact k8 f cs h hk
 | .iptr ..,h,_=>by simp[aH]at h
 | .any,_,_| .hole,_,_| .int _ _,_,_| .bool _,_,_| .str _,_,_| .nilp,_,_| .nili,_,_| .err,_,_| .ptr _ _,_,_| .osl _ _ _ _,_,_| .mp _,_,_=>rfl
theorem k8(f:Nat→Option Nat):∀ ps:List PV,bc ps=true→(∀ q∈aw ps,(f q.1).isSome=true)→bc (bB f false ps)=true
 | [],_,_=>rfl
 |p::ps,h,hk=>by
  simp only[bc,aa]at h
  simp only[bB,bc,lu f p h.1 fun q hq=>hk q (by simp only[aw,ax];exact .inl hq),k8 f ps h.2 fun q hq=>hk q (by simp only[aw,ax];exact .inr hq),am]
end
def cY(nx:Nat):List Nat→List (Nat×Nat)
 | []=>[]
 |n::ns=>(nx,n)::cY (nx+1) ns
theorem Ca(nx:Nat):∀ a b:List Nat,cY nx (a++b)=cY nx a++cY (nx+a.length) b
 | [],b=>by simp[cY]
 |n::a,b=>by rw[aM,cY,cY,Ca (nx+1) a b,aM,ao,jo,Nat.add_comm 1]
theorem B9(nx:Nat):∀ a:List Nat,(cY nx a).length=a.length
 | []=>rfl
 |n::a=>by rw[cY,ao,B9 (nx+1) a,ao]
theorem jK{nx:Nat}:∀ {a:List Nat} {q:Nat×Nat},q∈cY nx a→nx≤q.1∧q.1<nx+a.length∧a.getD (q.1-nx) 0=q.2
 | [],q,h=>by simp[cY]at h
 |n::a,q,h=>by
  rw[cY,aJ]at h
  rcases h with rfl|h
  ·simp
  ·obtain⟨h1,h2,h3⟩:=jK h
   refine⟨by omega,by simp;omega,?_⟩
   obtain⟨d,hd⟩:∃ d,q.1-nx=d+1:=⟨q.1-nx-1,by omega⟩
   rw[hd,List.getD_cons_succ,←h3]
   congr 1;omega
theorem og{nx:Nat}(k:Nat):∀ a:List Nat,ck k (cY nx a)≤1
 | []=>by simp[cY,ck]
 |n::a=>by
  rw[cY,ck]
  have h1:= @og (nx+1) k a
  by_cases h:nx=k
  ·have:ck k (cY (nx+1) a)=0:=pH fun q hq=>by have:=jK hq;omega
   simp only[h,if_true]at this ⊢
   omega
  ·simp only[h,if_false];omega
theorem kz{x:Nat}:∀ {xs:List Nat},x∈xs→(bG xs x).isSome=true
 |y::ys,h=>by
  rw[bG]
  split
  ·rfl
  ·rename_i hn
   have hx:x∈ys:=by
    rcases aJ.1 h with rfl|h
    ·exact absurd rfl hn
    ·exact h
   have:= @kz x ys hx
   simpa using this
theorem lU:∀ {l:List (Nat×Nat)} (d:Nat),(∀ k,ck k l≤1)→l.map (fun q=>(d+(bG (l.map (·.1)) q.1).getD 0,q.2))=cY d (l.map (·.2))
 | [],_,_=>rfl
 |q::l,d,h=>by
  have hl:∀ k,ck k l≤1:=fun k=>by have:=h k;rw[ck]at this;omega
  have ih:=lU (d+1) hl
  simp only[aF,cY,bG,if_true]
  congr 1
  rw[←ih]
  refine List.map_congr_left fun x hx=>?_
  have hne:q.1≠x.1:=by
   intro he
   have h1:=h q.1
   rw[ck,ai rfl]at h1
   have:=ja.2 ⟨x,hx,he.symm⟩
   omega
  rw[ad hne]
  have hm:x.1∈l.map (·.1):=cq.2 ⟨x,hx,rfl⟩
  obtain⟨i,hi⟩:=bR.1 (kz hm)
  simp only[hi,cp,Option.getD_some]
  congr 1;omega
def a6(st:St)(l:List (Nat×Nat)):Prop:=(∀ k,ck k l≤1)∧∀ q∈l,q.1<st.nx∧st.cnt q.1=q.2∧st.fl≤q.1
theorem a6.ok{st:St}{l:List (Nat×Nat)}(h:a6 st l):l.all (qZ st)=true:=by
 rw[aU]
 intro q hq
 obtain⟨h1,h2,h3⟩:=h.2 q hq
 simp[qZ,gu,h1,h2,h3]
theorem ew{st:St}{l:List (Nat×Nat)}(h:a6 st l)(hf:st.fl≤st.nx)(ns:List Nat):a6 (st.more ns) (l++cY st.nx ns):=by
 refine⟨fun k=>?_,fun q hq=>?_⟩
 ·rw[bW]
  have h1:=h.1 k
  have h2:= @og st.nx k ns
  by_cases hk:k<st.nx
  ·have:ck k (cY st.nx ns)=0:=pH fun q hq=>by have:=jK hq;omega
   omega
  ·have:ck k l=0:=pH fun q hq=>by have:=(h.2 q hq).1;omega
   omega
 ·rw[St.more_nx,St.more_fl]
  rcases ax.1 hq with hq|hq
  ·obtain⟨h1,h2,h3⟩:=h.2 q hq
   exact⟨by omega,by rw[St.more_old _ _ h1];exact h2,h3⟩
  ·obtain⟨h1,h2,h3⟩:=jK hq
   exact⟨by omega,by rw[St.more_new _ _ h1 h2];exact h3,by omega⟩
theorem br{st:St}{s:Nat}{c:List PV}{l:List (Nat×Nat)}(h:a6 st l):a6 (bU st s c) l:=h
structure cW (nx:Nat) (ns:List Nat) (r:PV):Prop where
 tk:aq r=cY nx ns
 so:aH r=true
 np:np r=true
theorem kA{r0:PV}(hs:aH r0=true)(hn:np r0=true)(hd:∀ k,ck k (aq r0)≤1)(nx:Nat):
  cW nx ((aq r0).map (·.2)) (ren (fun k=>some (nx+k)) false (ren (bG ((aq r0).map (·.1))) false r0))∧cW 0 ((aq r0).map (·.2)) (ren (bG ((aq r0).map (·.1))) false r0):=by
 have hm:∀ q∈aq r0,(bG ((aq r0).map (·.1)) q.1).isSome=true:=fun q hq=>kz (cq.2 ⟨q,hq,rfl⟩)
 have h1:aq (ren (bG ((aq r0).map (·.1))) false r0)=(aq r0).map fun q=>((bG ((aq r0).map (·.1)) q.1).getD 0,q.2):=
  mD _ (fun k=>(bG ((aq r0).map (·.1)) k).getD 0) r0 fun q hq=>by obtain⟨i,hi⟩:=bR.1 (hm q hq);rw[hi];rfl
 have hs1:=lu (bG ((aq r0).map (·.1))) r0 hs hm
 refine⟨⟨?_,lu _ _ hs1 fun _ _=>rfl,?_⟩,⟨?_,hs1,?_⟩⟩
 ·rw[mD _ (fun k=>nx+k) _ fun _ _=>rfl,h1,List.map_map]
  exact lU nx hd
 ·rw[PM.np,fC,fC];exact hn
 ·rw[h1];have:=lU 0 hd;simpa using this
 ·rw[PM.np,fC];exact hn
theorem rZ{r0:PV}{st1:St}(h:a6 st1 (aq r0)):jr true st1 r0 []=(ren (bG ((aq r0).map (·.1))) false r0,(aq r0).map (·.2),[]):=by
 have:iU []=[]:=rfl
 simp only[jr,this,aO,m7 h.1,h.ok,am,if_true,bK]
def xR:PV→Option Nat
 | .list _ _ (.own _ e)=>some e
 |_=>none
theorem GQ{f:Nat→Option Nat}{p:PV}(h:∀ q∈aq p,(f q.1).isSome=true):xR (ren f false p)=xR p:=by
 cases p with
 |list n cs t=>
  rw[gW]
  cases t with
  |own k e=>
   obtain⟨j,hj⟩:=bR.1 (h (k,n) (by simp[aq]))
   have hj:f k=some j:=hj
   simp only[ay.ren,hj,xR]
  |sub k=>simp only[ay.ren];cases f k<;>rfl
  |el k e n=>simp only[ay.ren];cases f k<;>rfl
  |_=>rfl
 |_=>rfl
def sU(rs:List gr)(Q:PV→Option Nat→Prop)(e:Ex)(y:Fr×St):Prop:=iA e∧∃ r0,ei y.1 y.2 rs=some [r0]∧jv r0=true∧np r0=true∧aH r0=true∧a6 y.2 (aq r0)∧Q (aA r0) (xR r0)
section
variable {cf:au} {f:Nat} {F:bn} {as:List PV} {st:St} {rs:List gr}
theorem FD(st:St)(ns:List Nat):{st.more ns with fl:=st.fl}=st.more ns:=by cases ns<;>rfl
theorem En{F:bn}{fr:Fr}{s1:St}{r0:PV}(hown:F.own=true)(hps:ei fr s1 F.res=some [r0])(hr:jv r0=true)(hp:np r0=true)(hk:a6 s1 (aq r0)):
  ge F 0 fr s1=some (ren (bG ((aq r0).map (·.1))) false r0,(aq r0).map (·.2),[]):=by
 have h0:cE s1 (List.range 0)=some []:=rfl
 have hm:=mj F.nk s1 [r0] (by simpa using hr)
 simp only[ge,hps,h0,hm,eq,hp,du,am,if_true,hown,rZ hk]
theorem JB(hown:F.own=true)(hres:F.res=rs)(N:Nat){ns:List Nat}{Q:PV→Option Nat→Prop}(hnt:as.length≤F.nt)(h:Wp cf N F.body (eP as,cF ns []) (sU rs Q)):
  ∃ r ns',ff cf N F as ns []=some (r,ns',[])∧cW 0 ns' r∧(∀ nx,cW nx ns' (ren (fun k=>some (nx+k)) false r))∧Q (aA r) (xR r):=by
 obtain⟨e,⟨fr,s1⟩,hev,he,r0,hps,hr,hp,hso,hk,hQ⟩:=h
 subst hres
 have hf:=En hown hps hr hp hk
 refine⟨_,_,?_,(kA hso hp hk.1 0).2,fun nx=>(kA hso hp hk.1 nx).1,by rw[hO,GQ fun q hq=>kz (cq.2 ⟨q,hq,rfl⟩)];exact hQ⟩
 unfold ff
 rw[ai ⟨hnt,aY _⟩,hev]
 cases e with
 |go=>exact hf
 |ret=>exact hf
 |exit i=>exact he.elim
theorem ue{r:PV}{ns:List Nat}(has:as.all bI=true)(hc:cf f (as.map aA) [] []=some (r,ns,[]))(hso:aH r=true):ar cf f as [] st=some (ren (fun k=>some (st.nx+k)) false r,st.more ns):=by
 rw[oF has hc,nu r hso,Bool.true_or,ai rfl]
 congr 2
 exact FD st ns
theorem oW(K:gT cf)(hT:T f=some F)(hres:F.res=rs)(hown:F.own=true)(hnt:as.length≤F.nt)(has:∀ p∈as,cL p)(N:Nat){Q:PV→Prop}
  (h:Wp cf N F.body (eP as,cF [] []) (sU rs fun p _=>Q p)):∃ r ns,ar cf f as [] st=some (r,st.more ns)∧cW st.nx ns r∧Q (aA r):=by
 obtain⟨h1,h2⟩:=dR has
 obtain⟨r,ns,hrun,hF0,hF,hQ⟩:=JB hown hres N hnt h
 have hcf:=K f F hT N _ _ _ _ hrun
 refine⟨_,ns,ue h1 (by rw[h2];exact hcf) hF0.so,hF st.nx,by rw[hO];exact hQ⟩
theorem eV{o:Option (PV×St)}{mk:PV→St→Fr×St}{A:Fr×St→Prop}{v:PV}(h:∃ r ns,o=some (r,st.more ns)∧cW st.nx ns r∧aA r=v)(k:∀ r ns,cW st.nx ns r→aA r=v→A (mk r (st.more ns))):cT o mk A:=by
 obtain⟨r,ns,rfl,hF,hQ⟩:=h
 exact⟨_,_,rfl,k r ns hF hQ⟩
end
theorem jl{r:PV}{cs:List PV}(h:aA r= .agg cs):∃ ds,r= .agg ds∧aB ds=cs:=by
 cases r with
 |agg ds=>exact⟨ds,rfl,by simpa [aA,aB,ren]using h⟩
 |list n ds t=>simp[aA,ren]at h
 |iptr ds o t=>simp[aA,ren]at h
 |_=>simp[aA,ren]at h
theorem cw{r:PV}{n:Nat}{cs:List PV}{t:ay}(h:aA r= .list n cs t):∃ ds u,r= .list n ds u∧aB ds=cs∧t= .no:=by
 cases r with
 |list m ds u=>
  rw[ep]at h
  injection h with h1 h2 h3
  exact⟨ds,u,by rw[h1],h2,h3.symm⟩
 |agg ds=>simp[aA,ren]at h
 |iptr ds o t=>simp[aA,ren]at h
 |_=>simp[aA,ren]at h
theorem gh:∀ xs ys:List PV,bc (xs++ys)=(bc xs && bc ys)
 | [],ys=>rfl
 |x::xs,ys=>by simp only[aM,bc,gh xs ys,Bool.and_assoc]
theorem gb:∀ xs ys:List PV,aw (xs++ys)=aw xs++aw ys
 | [],ys=>rfl
 |x::xs,ys=>by simp only[aM,aw,gb xs ys,cK]
def BL(Q:PV→Option Nat→Prop)(r0:PV)(st:St):Prop:=jv r0=true∧np r0=true∧aH r0=true∧a6 st (aq r0)∧Q (aA r0) (xR r0)
def BM(Q:PV→Option Nat→Prop)(o:Option PV)(st:St):Prop:=match o with
 |some p=>BL Q p st
 |none=>False
theorem GM{e:Ex}(he:iA e){t:Nat}{Q:PV→Option Nat→Prop}{fr:Fr}{st:St}:sU [.tmp t] Q e (fr,st)↔BL Q (fr t) st:=by
 constructor
 ·rintro⟨-,r0,h,k⟩
  simp only[ei,lw]at h
  cases h
  exact k
 ·rintro k
  exact⟨he,_,rfl,k⟩
theorem EQ{e:Ex}(he:iA e){a sz:Nat}{ag:Bool}{Q:PV→Option Nat→Prop}{fr:Fr}{st:St}:sU [.cell a sz ag] Q e (fr,st)↔BM Q (sI (fr a) sz ag st) st:=by
 have h0:lw fr st (.cell a sz ag)=sI (fr a) sz ag st:=rfl
 unfold sU
 rw[r7,h0]
 cases sI (fr a) sz ag st with
 |none=>simp[BM,sF]
 |some p=>simp[BM,ei,sF,BL,he]
def HH(e sz bytes:Nat)(n c:PV)(st:St):Option (PV×St):=match n,c with
  | .int .i64 0,.int .i64 b=>if 0≤b∧bytes*b.toNat≤dh∧b≤140737488355328∧0<sz then
    some (.list 0 [] (.own st.nx e),st.more [0])
   else none
  |_,_=>none
def HC(e sz bytes:Nat)(d:Option Nat)(zs:List PV)(n c:PV)(st:St):Option (PV×St):=match d,n,c with
  |some s,.int .i64 a,.int .i64 b=>if a=b∧0≤a∧bytes*a.toNat≤dh∧a≤140737488355328∧zs.length=sz∧0<sz then
    some (.osl e sz s a.toNat,bU st s (List.replicate a.toNat zs).flatten)
   else none
  |_,_,_=>none
theorem JS{e sz bytes:Nat}{b:Int}{st:St}(h1:0≤b)(h2:bytes*b.toNat≤140737488355328)(h3:b≤140737488355328)(h4:0<sz):HH e sz bytes (I 0) (I b) st=some (.list 0 [] (.own st.nx e),st.more [0]):=by
 have hb:dh=140737488355328:=rfl
 simp only[HH,hb,h1,h2,h3,h4,lL,if_true]
theorem CI{e sz bytes s:Nat}{zs:List PV}{a:Int}{st:St}(h1:0≤a)(h2:bytes*a.toNat≤140737488355328)(h3:a≤140737488355328)(h4:zs.length=sz)(h5:0<sz):HC e sz bytes (some s) zs (I a) (I a) st=some (.osl e sz s a.toNat,bU st s (List.replicate a.toNat zs).flatten):=by
 have hb:dh=140737488355328:=rfl
 simp only[HC,hb,h1,h2,h3,h4,h5,lL,if_true]
theorem lx:
  (∀ {cf:au} {fr:Fr} {st:St} {d:Option Nat} {e sz b:Nat} {n c:CX},ap cf fr st d (.mk0 e sz b n c)=HH e sz b (n.ev fr) (c.ev fr) st)∧
  (∀ {cf:au} {fr:Fr} {st:St} {d:Option Nat} {e sz b:Nat} {zs:List PV} {n c:CX},ap cf fr st d (.mks e sz b zs n c)=HC e sz b d zs (n.ev fr) (c.ev fr) st)∧
  (∀ {t:Nat} {Q:PV→Option Nat→Prop} {fr:Fr} {st:St},sU [.tmp t] Q .ret (fr,st)↔BL Q (fr t) st)∧(∀ {a sz:Nat} {ag:Bool} {Q:PV→Option Nat→Prop} {fr:Fr} {st:St},sU [.cell a sz ag] Q .ret (fr,st)↔BM Q (sI (fr a) sz ag st) st)∧
  (∀ {p:PV} {Q:PV→Option Nat→Prop} {st:St},BM Q (some p) st↔BL Q p st)∧(∀ {s al sz:Nat} {ag:Bool} {st:St},sI (.ptr s al) sz ag st=tL (st.objs s) al sz ag)∧
  (∀ {st:St} {ns:List Nat},(st.more ns).objs=st.objs)∧(∀ {st:St} {ns:List Nat},(st.more ns).maps=st.maps)∧(∀ {st:St} {ns:List Nat},(st.more ns).nx=st.nx+ns.length):=
 ⟨by intros;rfl,by intros;rfl,GM (m9.2 trivial),EQ (m9.2 trivial),Iff.rfl,rfl,fun{st ns}=>St.more_objs st ns,fun{st ns}=>St.more_maps st ns,fun{st ns}=>St.more_nx st ns⟩
mutual
theorem pM(K:Nat→Bool):∀ p:PV,tf K (aA p)=true
 | .list n cs t=>by
  have ih:=kC K cs
  rw[ep]
  simp only[tf,ih,cr];rfl
 | .iptr cs o t=>by
  have ih:=kC K cs
  simp only[aA,aB,ren]at ih ⊢
  simp only[tf,ih,cr]
  cases t<;>rfl
 | .agg cs=>by have ih:=kC K cs;simp only[aA,aB,ren,tf]at ih ⊢;exact ih
 | .tup cs=>by have ih:=kC K cs;simp only[aA,aB,ren,tf]at ih ⊢;exact ih
 | .fn g cs=>by have ih:=kC K cs;simp only[aA,aB,ren,tf]at ih ⊢;exact ih
 | .any| .hole| .int _ _| .bool _| .str _| .nilp| .nili| .err| .ptr _ _| .osl _ _ _ _| .mp _=>rfl
theorem kC(K:Nat→Bool):∀ ps:List PV,dT K (aB ps)=true
 | []=>rfl
 |p::ps=>by
  have h1:=pM K p
  have h2:=kC K ps
  simp only[aA,aB,bB,dT]at h1 h2 ⊢
  rw[h1,h2];rfl
end
theorem vk{J:List Nat}{p:PV}(h:cL p):bJ J p=p:=by
 have:=pM (J.contains ·) p
 rw[h.2.1]at this
 rw[bJ,ai this]
theorem B2{J:List Nat}{p:PV}(h:aH p=true)(hk:∀ q∈aq p,q.1∉J):bJ J p=p:=by
 rw[bJ,ai (vD _ p h fun q hq=>by simpa using hk q hq)]
theorem FI{J:List Nat}:∀ {cs:List PV},b8 cs→cs.map (bJ J)=cs
 | [],_=>rfl
 |c::cs,h=>by
  have h1:=kC (J.contains ·) (c::cs)
  rw[h.2.1]at h1
  simp only[dT,aa]at h1
  have:∀ {ds:List PV},dT (J.contains ·) ds=true→ds.map (bJ J)=ds:=by
   intro ds hd
   induction ds with
   |nil=>rfl
   |cons d ds ih=>
    simp only[dT,aa]at hd
    rw[aF,ih hd.2,bJ,ai hd.1]
  exact this (by simp only[dT,h1.1,h1.2,am])
theorem FH{J:List Nat}{cs:List PV}(h:bc cs=true)(hk:∀ q∈aw cs,q.1∉J):cs.map (bJ J)=cs:=by
 have hd:=kq (J.contains ·) cs h fun q hq=>by simpa using hk q hq
 clear h hk
 induction cs with
 |nil=>rfl
 |cons d ds ih=>
  simp only[dT,aa]at hd
  rw[aF,ih hd.2,bJ,ai hd.1]
def I5(J:List Nat)(fr:Fr):Fr:=fun t=>bJ J (fr t)
def ez(J ns:List Nat)(st:St):St:={st.more ns with objs:=gp J st.objs,maps:=iZ J st.maps,cnt:=(fun t=>if J.contains t then 0 else(st.more ns).cnt t),fl:=st.fl}
theorem qD{st:St}{A B C:List (Nat×Nat)}{ns:List Nat}(h:a6 st (A++B++C))(hf:st.fl≤st.nx):a6 (ez (B.map (·.1)) ns st) (A++cY st.nx ns++C):=by
 have hd:∀ q,q∈A∨q∈C→q.1∉B.map (·.1):=by
  intro q hq hb
  obtain⟨x,hx,he⟩:=cq.1 hb
  have h1:=h.1 q.1
  rw[bW,bW]at h1
  have h2:=ja.2 ⟨x,hx,he⟩
  have h3:0<ck q.1 A∨0<ck q.1 C:=hq.imp (fun hq=>ja.2 ⟨q,hq,rfl⟩) (fun hq=>ja.2 ⟨q,hq,rfl⟩)
  omega
 have ho:∀ q,q∈A∨q∈C→q.1<st.nx∧st.cnt q.1=q.2∧st.fl≤q.1:=fun q hq=>h.2 q (by simp only[ax];rcases hq with h|h<;>simp[h])
 have hB:∀ q∈B,q.1<st.nx:=fun q hq=>(h.2 q (by simp[hq])).1
 refine⟨fun k=>?_,fun q hq=>?_⟩
 ·have h1:=h.1 k
  rw[bW,bW]at h1 ⊢
  have h2:= @og st.nx k ns
  by_cases hk:k<st.nx
  ·have:ck k (cY st.nx ns)=0:=pH fun q hq=>by have:=jK hq;omega
   omega
  ·have e1:ck k A=0:=pH fun q hq=>by have:=(ho q (.inl hq)).1;omega
   have e2:ck k C=0:=pH fun q hq=>by have:=(ho q (.inr hq)).1;omega
   omega
 ·have hq':(q∈A∨q∈C)∨q∈cY st.nx ns:=by
   simp only[ax]at hq
   rcases hq with(h|h)|h<;>simp[h]
  show q.1<(st.more ns).nx∧(if(B.map (·.1)).contains q.1 then 0 else(st.more ns).cnt q.1)=q.2∧st.fl≤q.1
  rw[St.more_nx]
  rcases hq' with hq|hq
  ·obtain⟨h1,h2,h3⟩:=ho q hq
   have:=hd q hq
   rw[ad (by simpa using this),St.more_old _ _ h1]
   exact⟨by omega,h2,h3⟩
  ·obtain⟨h1,h2,h3⟩:=jK hq
   have:q.1∉B.map (·.1):=by
    intro hb
    obtain⟨x,hx,he⟩:=cq.1 hb
    have:=hB x hx
    omega
   rw[ad (by simpa using this),St.more_new _ _ h1 h2]
   exact⟨by omega,h3,by omega⟩
section
variable {cf:au} {f:Nat} {F:bn} {st:St} {rs:List gr} {n:Nat} {cs rest:List PV} {tk:ay}
theorem pj:∀ (rest:List PV) (i:Nat),0<i→jx [0] i rest=[]
 | [],_,_=>rfl
 |p::ps,i,h=>by
  have:([0]:List Nat).contains i=false:=by simp;omega
  rw[jx,this,pj ps (i+1) (by omega)];rfl
theorem IF(mv:List Nat):∀ (ps:List PV) (i:Nat),ps.all bI=true→jA mv i ps=[]
 | [],_,_=>rfl
 |p::ps,i,h=>by
  rw[dc,aa]at h
  have ih:=IF mv ps (i+1) h.2
  cases p<;>first|exact ih|exact absurd h.1 (by simp[bI])
theorem AO(hr:rest.all bI=true):dy [0] (.list n cs tk::rest) []=aq (.list n cs tk):=by
 have h:rP (jA [0] 0 (.list n cs tk::rest)) []=[]:=by cases jA [0] 0 (.list n cs tk::rest)<;>rfl
 rw[dy,h,jx,pj _ _ (by omega)]
 simp
theorem rz(J:List Nat):∀ (rest:List PV) (i k:Nat),0<i→rest.all bI=true→d9 J [0] i k rest=rest.map aA
 | [],_,_,_,_=>rfl
 |p::ps,i,k,h,hr=>by
  rw[dc,aa]at hr
  have ih:=fun m=>rz J ps (i+1) m (by omega) hr.2
  have hc:([0]:List Nat).contains i=false:=by simp;omega
  cases p<;>first|(simp only[d9,hc,ih,aF];rfl)|exact absurd hr.1 (by simp[bI])
theorem Bl(hn:np (.list n cs tk)=true)(hk:a6 st (aq (.list n cs tk)))(hr:rest.all bI=true)(hsp:jR ((aq (.list n cs tk)).map (·.1)) [0] 1 rest=true){r:PV}{ns:List Nat}
  (hc:cf f (ren (bG ((aq (.list n cs tk)).map (·.1))) false (.list n cs tk)::rest.map aA) ((aq (.list n cs tk)).map (·.2)) []=some (r,ns,[])) (hs:aH r=true):
  ar cf f (.list n cs tk::rest) [0] st=some (ren (fun k=>some (st.nx+k)) false r,ez ((aq (.list n cs tk)).map (·.1)) ns st)∧cX (.list n cs tk::rest) [0] st=(aq (.list n cs tk)).map (·.1):=by
 have hkeys:ch (.list n cs tk::rest)=some []:=by
  rw[ch,ai hn]
  ·exact dX hr
  ·intros;contradiction
 have hm:=AO (n:=n) (cs:=cs) (tk:=tk) hr
 have hb:jX ((aq (.list n cs tk)).map (·.1)) (jA [0] 0 (.list n cs tk::rest)) []=[]:=by cases jA [0] 0 (.list n cs tk::rest)<;>rfl
 have hbs:∀ J l,lG J l []=true:=by intro J l;cases l<;>rfl
 have hh:d9 ((aq (.list n cs tk)).map (·.1)) [0] 0 0 (.list n cs tk::rest)=ren (bG ((aq (.list n cs tk)).map (·.1))) false (.list n cs tk)::rest.map aA:=by
  rw[d9,rz _ _ _ _ (by omega) hr]
  ·rfl
  ·intros;contradiction
 have hs2:jR ((aq (.list n cs tk)).map (·.1)) [0] 0 (.list n cs tk::rest)=true:=by rw[jR,hsp];rfl
 constructor
 ·simp only[ar,hkeys,cE,hm,m7 hk.1,hk.ok,hs2,hbs,hb,am,if_true,hh,hc,nu r hs,du,aV,dw]
  rfl
 ·simp only[cX,hkeys,cE,hm]
def n4(e:Nat)(tk:ay):Prop:=tk= .nil∨∃ k,tk= .own k e
end
theorem KS:
  (∀ {cf:au} {f:Nat} {as:List CX} {d:Option Nat} {st:St} {fr:Fr},cn cf (.call f as [0]) d st fr=I5 (cX (as.map (·.ev fr)) [0] st) fr)∧(∀ {J:List Nat} {fr:Fr} {t:Nat},I5 J fr t=bJ J (fr t))∧
  (∀ {J:List Nat} {k:IntKind} {n:Int},bJ J (.int k n)= .int k n)∧(∀ {J:List Nat} {b:Bool},bJ J (.bool b)= .bool b)∧(∀ {J:List Nat} {s:ByteArray},bJ J (.str s)= .str s)∧(∀ {J:List Nat} {s o:Nat},bJ J (.ptr s o)= .ptr s o)∧(∀ {J:List Nat} {e z s n:Nat},bJ J (.osl e z s n)= .osl e z s n)∧
  (∀ {J ns:List Nat} {st:St} {s:Nat},(ez J ns st).objs s=(st.objs s).map fun c=>c.map (bJ J))∧(∀ {c:List PV} {g:List PV→List PV},(some c).map g=some (g c)):=
 ⟨rfl,rfl,rfl,rfl,rfl,rfl,rfl,rfl,rfl⟩
def Dv(sz:Nat)(a:PV)(vs:Option (List PV))(st:St):Option (PV×St):=match a,vs with
 | .ptr s al,some vs=>match st.objs s with
  |some cs=>if vs.length=sz∧al+sz≤cs.length then some (.hole,bU st s (putCells cs al vs))else none
  |none=>none
 | .iptr cs al (.el k e n),some vs=>
  if vs.length=sz∧al+sz≤cs.length∧0<n∧st.cnt k=n∧k<st.nx∧st.fl≤k∧dT ([k].contains ·) cs=true∧dT ([k].contains ·) vs=true then
   some (.hole,{st with objs:=nM (jH cs al k e n vs) st.objs,maps:=oX (jH cs al k e n vs) st.maps})
  else none
 |_,_=>none
def Je(u:jC)(st:St):St:={st with objs:=nM u st.objs,maps:=oX u st.maps}
def ML(u:jC)(fr:Fr):Fr:=fun t=>fo u (fr t)
theorem Jq{sz al k e n:Nat}{cs vs:List PV}{st:St}(h1:vs.length=sz)(h2:al+sz≤cs.length)(h3:0<n)(h4:st.cnt k=n)(h5:k<st.nx)(h6:st.fl≤k)(h7:dT ([k].contains ·) cs=true)(h8:dT ([k].contains ·) vs=true):
  Dv sz (.iptr cs al (.el k e n)) (some vs) st=some (.hole,Je (jH cs al k e n vs) st):=by
 simp only[Dv]
 rw[ai ⟨h1,h2,h3,h4,h5,h6,h7,h8⟩];rfl
def uR(f:Nat)(o:Option (PV×PV×St))(as:List PV)(st:St):Option (PV×St):=match o with
 |some (r,p',st')=>if kG as=true then some (r,Bu f p' as st st')else none
 |none=>none
theorem GC{J:List Nat}{k n e:Nat}{p:PV}{cs:List PV}:fo ⟨J,k,n,p⟩ (.list n cs (.own k e))=p:=by simp[fo,ay.isOwn]
theorem LL{cs cs' vs:List PV}{al k e e' n:Nat}:fo (jH cs al k e n vs) (.list n cs' (.own k e'))= .list n (putCells cs al vs) (.own k e):=by simp[fo,ay.isOwn,jH]
theorem Kv{u:jC}{n:Nat}{cs:List PV}{k e:Nat}(h:k≠u.k)(hJ:u.J.contains k=false):fo u (.list n cs (.own k e))= .list n (fU u cs) (.own k e):=by
 have h1:(ay.own k e).isOwn u.k=false:=by simp[ay.isOwn,h]
 have h2:(ay.own k e).free (u.J.contains ·)=true:=by simp only[ay.free,ay.of,hJ,Bool.not_false]
 rw[fo,h1,fP,ad (by simp),ai h2]
theorem free_none{K:Nat→Bool}{t:ay}(h:t.of=none):t.free K=true:=by simp[ay.free,h]
mutual
theorem Dh(u:jC)(hu:u.J.contains u.k=true):∀ p:PV,tf (u.J.contains ·) p=true→fo u p=p
 | .list n cs t,h=>by
  simp only[tf,aa]at h
  have ih:=mL u hu cs h.2
  simp only[fo,ih]
  have:t.isOwn u.k=false:=by
   cases t with
   |own j e=>
    simp only[ay.isOwn,beq_eq_false_iff_ne,dD]
    rintro rfl
    have:=h.1
    simp only[ay.free,ay.of,hu]at this
    cases this
   |_=>rfl
  rw[this,ad (by simp),ai h.1]
 | .iptr cs o t,h=>by
  simp only[tf,aa]at h
  have ih:=mL u hu cs h.2
  simp only[fo,ih]
  rw[ai h.1]
 | .agg cs,h=>by simp only[tf]at h;simp only[fo,mL u hu cs h]
 | .tup cs,h=>by simp only[tf]at h;simp only[fo,mL u hu cs h]
 | .fn g cs,h=>by simp only[tf]at h;simp only[fo,mL u hu cs h]
 | .any,_| .hole,_| .int _ _,_| .bool _,_| .str _,_| .nilp,_| .nili,_| .err,_| .ptr _ _,_| .osl _ _ _ _,_| .mp _,_=>rfl
theorem mL(u:jC)(hu:u.J.contains u.k=true):∀ ps:List PV,dT (u.J.contains ·) ps=true→fU u ps=ps
 | [],_=>rfl
 |p::ps,h=>by
  simp only[dT,aa]at h
  simp only[fU,Dh u hu p h.1,mL u hu ps h.2]
end
theorem lH{u:jC}(hu:u.J.contains u.k=true){ps:List PV}(h:bc ps=true)(hk:∀ q∈aw ps,q.1∉u.J):fU u ps=ps:=
 mL u hu ps (kq _ ps h fun q hq=>by simpa using hk q hq)
theorem Bt{u:jC}(hu:u.J.contains u.k=true){p:PV}(h:cL p):fo u p=p:=by
 have:=pM (u.J.contains ·) p
 rw[h.2.1]at this
 exact Dh u hu p this
theorem pz(u:jC):∀ a b:List PV,fU u (a++b)=fU u a++fU u b
 | [],_=>rfl
 |x::a,b=>by simp only[aM,fU,pz u a b]
theorem fH{st:St}{l l':List (Nat×Nat)}(h:a6 st l)(h1:∀ k,ck k l'≤ck k l)(h2:∀ q∈l',q∈l):a6 st l':=
 ⟨fun k=>di (h1 k) (h.1 k),fun q hq=>h.2 q (h2 q hq)⟩
theorem lJ{st:St}{X B Y:List (Nat×Nat)}(h:a6 st (X++B++Y)):∀ q∈X++Y,q.1∉B.map (·.1):=by
 intro q hq hb
 obtain⟨x,hx,he⟩:=cq.1 hb
 have h1:=h.1 q.1
 rw[bW,bW]at h1
 have h2:=ja.2 ⟨x,hx,he⟩
 have h3:0<ck q.1 X∨0<ck q.1 Y:=(ax.1 hq).imp (fun hq=>ja.2 ⟨q,hq,rfl⟩) (fun hq=>ja.2 ⟨q,hq,rfl⟩)
 omega
def xO(t:Nat)(Q:Int→PV→Prop)(e:Ex)(y:Fr×St):Prop:=iA e∧∃ k,y.1 t=I k∧jv (y.1 0)=true∧np (y.1 0)=true∧aH (y.1 0)=true∧a6 y.2 (aq (y.1 0))∧Q k (aA (y.1 0))
def LU(Q:Int→PV→Prop)(r p:PV)(st:St):Prop:=∃ k,r=I k∧jv p=true∧np p=true∧aH p=true∧a6 st (aq p)∧Q k (aA p)
theorem GN{t:Nat}{Q:Int→PV→Prop}{fr:Fr}{st:St}:xO t Q .ret (fr,st)↔LU Q (fr t) (fr 0) st:=
 ⟨fun h=>h.2,fun h=>⟨m9.2 trivial,h⟩⟩
section
variable {cf:au} {f:Nat} {F:bn} {st:St} {n:Nat} {cs:List PV} {tk:ay}
theorem Ar{as:List PV}{t:Nat}(hown:F.own=true)(hres:F.res=[.tmp t,.tmp 0])(N:Nat){ns:List Nat}{Q:Int→PV→Prop}(hnt:as.length≤F.nt)(h:Wp cf N F.body (eP as,cF ns []) (xO t Q)):
  ∃ k p ns',ff cf N F as ns []=some (.tup [I k,p],ns',[])∧cW 0 ns' p∧(∀ nx,cW nx ns' (ren (fun k=>some (nx+k)) false p))∧Q k (aA p):=by
 obtain⟨e,⟨fr,s1⟩,hev,he,k,hk,hr,hp,hso,htk,hQ⟩:=h
 have hf:ge F 0 fr s1=some (.tup [I k,ren (bG ((aq (fr 0)).map (·.1))) false (fr 0)],(aq (fr 0)).map (·.2),[]):=by
  have h0:cE s1 (List.range 0)=some []:=rfl
  have hps:ei fr s1 F.res=some [I k,fr 0]:=by rw[hres];simp only[ei,lw];rw[show fr t=I k from hk]
  have hm:=mj F.nk s1 [I k,fr 0] (by
   intro p hp
   simp at hp
   rcases hp with rfl|rfl
   ·rfl
   ·exact hr)
  have hnp:np (.tup [I k,fr 0])=true:=by
   show aG [I k,fr 0]=true
   have hp:np (fr 0)=true:=hp
   simp only[av,hp,am]
  have htt:aq (.tup [I k,fr 0])=aq (fr 0):=by simp only[aq,aw,bf,aO]
  have:=rZ (r0:= .tup [I k,fr 0]) (st1:=s1) (by rw[htt];exact htk)
  rw[htt]at this
  simp only[ge,hps,h0,hm,eq,hnp,du,am,if_true,hown,this]
  rfl
 refine⟨k,_,_,?_,(kA hso hp htk.1 0).2,fun nx=>(kA hso hp htk.1 nx).1,by rw[hO];exact hQ⟩
 unfold ff
 rw[ai ⟨hnt,aY _⟩,hev]
 cases e with
 |go=>exact hf
 |ret=>exact hf
 |exit i=>exact he.elim
theorem ug(K:gT cf)(hT:T (gx f)=some F){t:Nat}(hres:F.res=[.tmp t,.tmp 0])(hown:F.own=true)(hs:aH (.list n cs tk)=true)(hn:aG cs=true)(hk:a6 st (aq (.list n cs tk)))
  (hnt:2≤F.nt) (N:Nat) {k k':Int} {v:PV}
  (h:∀ cs0 tk0 ns,aB cs0=aB cs→cs0.length=cs.length→aG cs0=true→aH (.list n cs0 tk0)=true→a6 (cF ns []) (aq (.list n cs0 tk0))→Wp cf N F.body (eP [.list n cs0 tk0,I k],cF ns []) (xO t fun j p=>j=k'∧p=v)):
  ∃ p ns,uP cf f [.list n cs tk,I k] st=some (I k',p,ez ((aq (.list n cs tk)).map (·.1)) ns st)∧cW st.nx ns p∧aA p=v∧cX [.list n cs tk,I k] [0] st=(aq (.list n cs tk)).map (·.1):=by
 have hn':np (.list n cs tk)=true:=hn
 have hF0:=(kA hs hn' hk.1 0).2
 rw[gW]at hF0
 have hp:aG (bB (bG ((aq (.list n cs tk)).map (·.1))) false cs)=true:=by rw[aG,iJ];exact hn
 have hTB:a6 (cF ((aq (.list n cs tk)).map (·.2)) []) (aq (.list n (bB (bG ((aq (.list n cs tk)).map (·.1))) false cs) (tk.ren (bG ((aq (.list n cs tk)).map (·.1))) false))):=by
  rw[hF0.tk]
  exact⟨fun j=>og j _,fun q hq=>by have:=jK hq;exact⟨by simpa [cF]using this.2.1,by simpa [cF]using this.2.2,aY _⟩⟩
 obtain⟨j,p,ns,hrun,hFr,hF,hQ1,hQ2⟩:=Ar hown hres N (as:=[.list n (bB (bG ((aq (.list n cs tk)).map (·.1))) false cs) (tk.ren (bG ((aq (.list n cs tk)).map (·.1))) false),I k]) hnt (h _ _ _ (gA _ _) (gB _ _ _) hp hF0.so hTB)
 have hcf:=K (gx f) F hT N _ _ _ _ hrun
 rw[←gW]at hcf
 subst hQ1
 have hst:aH (.tup [I j,p])=true:=by simp only[aH,bc,hFr.so,am]
 obtain⟨h1,h2⟩:=Bl (rest:=[I k]) hn' hk rfl rfl hcf hst
 refine⟨ren (fun k=>some (st.nx+k)) false p,ns,?_,hF st.nx,by rw[hO];exact hQ2,h2⟩
 unfold uP
 rw[h1]
 rfl
theorem sP{v q:PV}{k':Int}{J:List Nat}{mk:PV→St→Fr×St}{A:Fr×St→Prop}{n:Nat}{cs:List PV}{tk:ay}{X:Prop}
  (h:∃ p ns,uP cf f [.list n cs tk,q] st=some (I k',p,ez J ns st)∧cW st.nx ns p∧aA p=v∧X) (k:∀ p ns,uP cf f [.list n cs tk,q] st=some (I k',p,ez J ns st)→cW st.nx ns p→aA p=v→X→A (mk (I k') (ez J ns st))) (hf:f≠69∧f≠72:=by decide):cT (uR f (uP cf f [.list n cs tk,q] st) [.list n cs tk,q] st) mk A:=by
 obtain⟨p,ns,hu,hF,hs,hX⟩:=h
 refine⟨I k',ez J ns st,?_,k p ns hu hF hs hX⟩
 rw[hu]
 cases tk with
 |own k e=>simp only[uR,kG,if_true,Bu];rw[ad fun h=>h.1.elim hf.1 hf.2]
 |_=>rfl
end
theorem tO{n:Nat}{cs rest:List PV}{k e:Nat}{r p:PV}{s st:St}{q:PV}:kU (some (r,p,s)) (.list n cs (.own k e)::rest) st q=fo ⟨cX (.list n cs (.own k e)::rest) [0] st,k,n,cH n p⟩ q:=rfl
theorem tP{n:Nat}{cs rest:List PV}{tk:ay}{o:Option (PV×PV×St)}{st:St}{q:PV}(h:∀ k e,tk≠ .own k e):kU o (.list n cs tk::rest) st q=bJ (cX (.list n cs tk::rest) [0] st) q:=by
 cases tk with
 |own k e=>exact absurd rfl (h k e)
 |_=>cases o<;>rfl
theorem lS{q:PV}:bJ [] q=q:=by
 unfold bJ
 have:tf (([]:List Nat).contains ·) q=true:=by
  have:=j9 q
  have e:(fun x=>([]:List Nat).contains x)=fun _=>false:=by funext x;rfl
  rw[e];exact this
 rw[ai this]
theorem tj{n:Nat}{cs:List PV}{tk:ay}(hs:aH (.list n cs tk)=true)(h:∀ k e,tk≠ .own k e):cs=[]:=by
 simp only[aH,aa]at hs
 cases tk with
 |own k e=>exact absurd rfl (h k e)
 |sub k=>simp at hs
 |el k e n=>simp at hs
 |_=>simpa using hs.1
theorem rU{n:Nat}{cs:List PV}{tk:ay}(hs:aH (.list n cs tk)=true)(h:∀ k e,tk≠ .own k e):aq (.list n cs tk)=[]:=by
 have:=tj hs h
 subst this
 cases tk with
 |own k e=>exact absurd rfl (h k e)
 |_=>rfl
section
variable {n sz:Nat} {cs rest:List PV} {tk:ay} {r p':PV} {s st:St} {ns:List Nat}
theorem FM(hs:aH (.list n cs tk)=true)(hn:aG cs=true)(hl:cs.length=n*sz)(h0:0<sz)(ht:cX (.list n cs tk::rest) [0] st=(aq (.list n cs tk)).map (·.1))(hF:cW st.nx ns p')(hz:cs=[]→aA p'= .list 0 [] .no){X Y:List (Nat×Nat)}(hk:a6 st (X++aq (.list n cs tk)++Y))(hf:st.fl≤st.nx):
  ∃ q,kU (some (r,p',s)) (.list n cs tk::rest) st (.list n cs tk)=q∧aH q=true∧np q=true∧aA q=aA p'∧a6 (ez ((aq (.list n cs tk)).map (·.1)) ns st) (X++aq q++Y):=by
 have hm:=qD (ns:=ns) hk hf
 rw[←hF.tk]at hm
 have hn0:cs=[]↔n=0:=by
  constructor
  ·rintro rfl
   simp only[aV]at hl
   rcases gv n with h|h
   ·exact h
   ·have:=Nat.mul_pos h h0;omega
  ·rintro rfl
   exact aP (by rw[hl,Nat.zero_mul])
 have drop:a6 (ez ((aq (.list n cs tk)).map (·.1)) ns st) (X++[]++Y):=fH hm (fun k=>by rw[bW,bW,bW,bW];simp only[ck];omega) (fun q hq=>by simp at hq ⊢;rcases hq with h|h<;>simp[h])
 by_cases ho:∃ k e,tk= .own k e
 ·obtain⟨k,e,rfl⟩:=ho
  rw[tO,GC]
  refine⟨_,rfl,?_⟩
  unfold cH
  by_cases h:n=0
  ·rw[ai h]
   exact⟨rfl,rfl,(hz (hn0.2 h)).symm,drop⟩
  ·rw[ad h]
   exact⟨hF.so,hF.np,rfl,hm⟩
 ·have ho':∀ k e,tk≠ .own k e:=fun k e h=>ho ⟨k,e,h⟩
  have hc:=tj hs ho'
  have htk:=rU hs ho'
  rw[tP ho',ht,htk,bK,lS]
  refine⟨_,rfl,hs,hn,?_,?_⟩
  ·rw[hz hc,ep,hc,hn0.1 hc];rfl
  ·rw[htk]at drop ⊢;exact drop
theorem Md(hs:aH (.list n cs tk)=true)(hn:aG cs=true)(hl:cs.length=n*sz)(h0:0<sz)(ht:cX (.list n cs tk::rest) [0] st=(aq (.list n cs tk)).map (·.1))(hF:cW st.nx ns p')(hz:cs=[]→aA p'= .list 0 [] .no){X Y:List (Nat×Nat)}{N K E:Nat}{pre post:List PV}
  (hso:aH (.list N (pre++ .list n cs tk::post) (.own K E))=true) (hk:a6 st (X++aq (.list N (pre++ .list n cs tk::post) (.own K E))++Y)) (hf:st.fl≤st.nx):
  ∃ q,kU (some (r,p',s)) (.list n cs tk::rest) st (.list N (pre++ .list n cs tk::post) (.own K E))= .list N (pre++q::post) (.own K E)∧aH (.list N (pre++q::post) (.own K E))=true∧aH q=true∧np q=true∧aA q=aA p'∧a6 (ez ((aq (.list n cs tk)).map (·.1)) ns st) (X++aq (.list N (pre++q::post) (.own K E))++Y):=by
 have hsplit:X++aq (.list N (pre++ .list n cs tk::post) (.own K E))++Y=(X++((K,N)::aw pre))++aq (.list n cs tk)++(aw post++Y):=by
  rw[aq,gb,aw]
  simp only[cK,aM,bf]
 have hk2:=hk
 rw[hsplit]at hk2
 obtain⟨q,h1,h2,h3,h4,h5⟩:=FM (r:=r) (s:=s) hs hn hl h0 ht hF hz hk2 hf
 simp only[aH,gh,bc,bX,aa]at hso
 have hap:=lJ hk2
 refine⟨q,?_,?_,h2,h3,h4,?_⟩
 ·by_cases ho:∃ k e,tk= .own k e
  ·obtain⟨k,e,rfl⟩:=ho
   rw[tO]at h1 ⊢
   rw[ht]at h1 ⊢
   have hJ:((aq (.list n cs (.own k e))).map (·.1)).contains k=true:=by simp[aq]
   have hK:K∉(aq (.list n cs (.own k e))).map (·.1):=hap (K,N) (by simp)
   have hKk:K≠k:=by rintro rfl;exact hK (by simp[aq])
   rw[Kv (u:=⟨(aq (.list n cs (.own k e))).map (·.1),k,n,cH n p'⟩) hKk (by simpa using hK),pz,lH (u:=⟨(aq (.list n cs (.own k e))).map (·.1),k,n,cH n p'⟩) hJ hso.1 (fun x hx=>hap x (by simp[hx]))]
   simp only[fU]
   rw[lH (u:=⟨(aq (.list n cs (.own k e))).map (·.1),k,n,cH n p'⟩) hJ hso.2.2 (fun x hx=>hap x (by simp[hx])),h1]
  ·have ho':∀ k e,tk≠ .own k e:=fun k e h=>ho ⟨k,e,h⟩
   have htk:=rU hs ho'
   rw[tP ho',ht,htk,bK,lS]at h1 ⊢
   rw[h1]
 ·simp only[aH,gh,bc,hso.1,h2,hso.2.2,am]
 ·have:X++aq (.list N (pre++q::post) (.own K E))++Y=(X++((K,N)::aw pre))++aq q++(aw post++Y):=by
   rw[aq,gb,aw]
   simp only[cK,aM,bf]
  rw[this]
  exact h5
end
section
variable {cf:au} {f:Nat} {st:St} {mk:PV→St→Fr×St} {A:Fr×St→Prop}
theorem nN{n sz N K E:Nat}{cs vs pre post:List PV}{tk:ay}{q:PV}{k':Int}{X Y:List (Nat×Nat)}
  (h:∃ p ns,uP cf f [.list n cs tk,q] st=some (I k',p,ez ((aq (.list n cs tk)).map (·.1)) ns st)∧cW st.nx ns p∧aA p= .list n vs .no∧cX [.list n cs tk,q] [0] st=(aq (.list n cs tk)).map (·.1))
  (hl:cs.length=n*sz) (h0:0<sz) (hz:n=0→vs=[]) (hso:aH (.list N (pre++ .list n cs tk::post) (.own K E))=true) (hnp:aG (pre++ .list n cs tk::post)=true) (hk:a6 st (X++aq (.list N (pre++ .list n cs tk::post) (.own K E))++Y)) (hf:st.fl=0)
  (k:∀ p ns c,uP cf f [.list n cs tk,q] st=some (I k',p,ez ((aq (.list n cs tk)).map (·.1)) ns st)→kU (some (I k',p,ez ((aq (.list n cs tk)).map (·.1)) ns st)) [.list n cs tk,q] st (.list N (pre++ .list n cs tk::post) (.own K E))= .list N (pre++c::post) (.own K E)→
   aH (.list N (pre++c::post) (.own K E))=true→aG (pre++c::post)=true→aA c= .list n vs .no→a6 (ez ((aq (.list n cs tk)).map (·.1)) ns st) (X++aq (.list N (pre++c::post) (.own K E))++Y)→A (mk (I k') (ez ((aq (.list n cs tk)).map (·.1)) ns st))) (hf':f≠69∧f≠72:=by decide):cT (uR f (uP cf f [.list n cs tk,q] st) [.list n cs tk,q] st) mk A:=by
 have hs1:aH (.list n cs tk)=true:=by
  simp only[aH,gh,bc,aa]at hso
  simpa [aH]using hso.2.2.1
 have hn1:aG cs=true:=by
  have:np (.list n cs tk)=true:=eF hnp (by simp)
  exact this
 refine sP h (fun p ns hu hF hv ht=>?_) hf'
 have hz':cs=[]→aA p= .list 0 [] .no:=by
  intro e
  have hn0:n=0:=by
   subst e
   simp only[aV]at hl
   rcases gv n with h|h
   ·exact h
   ·have:=Nat.mul_pos h h0;omega
  rw[hv,hz hn0,hn0]
 obtain⟨c,k1,k2,k3,k4,k5,k6⟩:=Md (r:=I k') (s:=ez ((aq (.list n cs tk)).map (·.1)) ns st) (sz:=sz) hs1 hn1 hl h0 ht hF hz' hso hk (by omega)
 refine k p ns c hu k1 k2 ?_ (by rw[k5,hv]) k6
 refine kX fun x hx=>?_
 rcases ax.1 hx with h|h
 ·exact eF hnp (by simp[h])
 ·rcases aJ.1 h with rfl|h
  ·exact k4
  ·exact eF hnp (by simp[h])
end
theorem K5{o:Option (PV×PV×St)}{as:List PV}{st:St}{k:IntKind}{n:Int}:kU o as st (.int k n)= .int k n:=by
 unfold kU;split<;>rfl
theorem JV{o:Option (PV×PV×St)}{as:List PV}{st:St}{b:Bool}:kU o as st (.bool b)= .bool b:=by
 unfold kU;split<;>rfl
theorem K4{o:Option (PV×PV×St)}{as:List PV}{st:St}{s k:Nat}:kU o as st (.ptr s k)= .ptr s k:=by
 unfold kU;split<;>rfl
theorem HR{n:Nat}{cs rest:List PV}{tk:ay}{r p':PV}{s st:St}(ht:cX (.list n cs tk::rest) [0] st=(aq (.list n cs tk)).map (·.1)){q:PV}(h:cL q):kU (some (r,p',s)) (.list n cs tk::rest) st q=q:=by
 by_cases ho:∃ k e,tk= .own k e
 ·obtain⟨k,e,rfl⟩:=ho
  rw[tO,ht]
  exact Bt (u:=⟨(aq (.list n cs (.own k e))).map (·.1),k,n,cH n p'⟩) (by simp[aq]) h
 ·rw[tP fun k e h=>ho ⟨k,e,h⟩]
  exact vk h
section
variable {st:St} {mk:PV→St→Fr×St} {A:Fr×St→Prop}
theorem iO{n K E al:Nat}{pre post:List PV}{c v:PV}{X Y:List (Nat×Nat)}(hoff:al=pre.length)(hn:0<n)(hs:aH (.list n (pre++c::post) (.own K E))=true)(hnp:aG (pre++c::post)=true)(hk:a6 st (X++aq (.list n (pre++c::post) (.own K E))++Y))(hv:aH v=true∧aq v=[]∧np v=true)
  (k:aH (.list n (pre++v::post) (.own K E))=true→aG (pre++v::post)=true→a6 (Je (jH (pre++c::post) al K E n [v]) st) (X++aq (.list n (pre++v::post) (.own K E))++Y)→A (mk .hole (Je (jH (pre++c::post) al K E n [v]) st))):
  cT (Dv 1 (.iptr (pre++c::post) al (.el K E n)) (some [v]) st) mk A:=by
 have hK:=hk.2 (K,n) (by simp[aq])
 have hsc:bc (pre++c::post)=true:=by simpa [aH]using hs
 have hnotin:∀ q∈aw (pre++c::post),q.1≠K:=by
  intro q hq he
  have h1:=hk.1 K
  rw[bW,bW,aq,bW]at h1
  have h2:=ja.2 ⟨q,hq,he⟩
  simp only[ck,if_true]at h1
  omega
 refine⟨_,_,Jq rfl (by simp[hoff]) hn hK.2.1 hK.1 hK.2.2 (kq _ _ hsc fun q hq=>by simpa using hnotin q hq) (by have:=vD ([K].contains ·) v hv.1 (by rw[hv.2.1];simp);simp only[dT,this,am]),k ?_ ?_ ?_⟩
 ·simp only[gh,bc,aa]at hsc
  simp only[aH,gh,bc,hsc.1,hv.1,hsc.2.2,am]
 ·have e1:aG pre=true:=kX fun q hq=>eF hnp (by simp[hq])
  have e2:aG (v::post)=true:=kX fun q hq=>by
   rcases aJ.1 hq with rfl|h
   ·exact hv.2.2
   ·exact eF hnp (by simp[h])
  exact kF e1 e2
 ·have:a6 st (X++aq (.list n (pre++v::post) (.own K E))++Y):=fH hk (fun q=>by simp only[aq,gb,aw,hv.2.1,bW,ck];omega) (fun q hq=>by
   simp only[aq,gb,aw,hv.2.1,ax,aJ,eD,or_false,bf]at hq ⊢
   rcases hq with(h|h|h|h)|h<;>simp[h])
  exact this
theorem nd{n K E E' al:Nat}{pre post cs':List PV}{c v:PV}(hoff:al=pre.length):fo (jH (pre++c::post) al K E n [v]) (.list n cs' (.own K E'))= .list n (pre++v::post) (.own K E):=by
 rw[LL,hoff]
 congr 1
 simp[putCells]
end
theorem g9:
  (∀ {cf:au} {fr:Fr} {st:St} {d:Option Nat} {sz:Nat} {a x:CX},ap cf fr st d (.stx sz a x)=Dv sz (a.ev fr) (cellsOf (x.ev fr)) st)∧
  (∀ {cf:au} {fr:Fr} {st:St} {d:Option Nat} {f:Nat} {as:List CX},ap cf fr st d (.callU f as)=uR f (uP cf f (as.map (·.ev fr)) st) (as.map (·.ev fr)) st)∧
  (∀ {cf:au} {fr:Fr} {st:St} {d:Option Nat} {sz:Nat} {a x:CX},cn cf (.stx sz a x) d st fr=sr (a.ev fr) (cellsOf (x.ev fr)) fr)∧
  (∀ {cf:au} {fr:Fr} {st:St} {d:Option Nat} {f:Nat} {as:List CX},cn cf (.callU f as) d st fr=D4 (uP cf f (as.map (·.ev fr)) st) (as.map (·.ev fr)) st fr)∧
  (∀ {cs vs:List PV} {al k e n:Nat} {fr:Fr},sr (.iptr cs al (.el k e n)) (some vs) fr=ML (jH cs al k e n vs) fr)∧(∀ {s al:Nat} {vs:Option (List PV)} {fr:Fr},sr (.ptr s al) vs fr=fr)∧
  (∀ {u:jC} {fr:Fr} {t:Nat},ML u fr t=fo u (fr t))∧(∀ {o:Option (PV×PV×St)} {as:List PV} {st:St} {fr:Fr} {t:Nat},D4 o as st fr t=kU o as st (fr t))∧
  (∀ {u:jC} {k:IntKind} {n:Int},fo u (.int k n)= .int k n)∧(∀ {u:jC} {b:Bool},fo u (.bool b)= .bool b)∧(∀ {u:jC} {s:ByteArray},fo u (.str s)= .str s)∧(∀ {u:jC} {s o:Nat},fo u (.ptr s o)= .ptr s o)∧
  (∀ {n k e:Nat},(ay.own k e).elt n= .el k e n)∧(∀ {u:jC} {st:St} {s:Nat},(Je u st).objs s=(st.objs s).map fun c=>fU u c)∧
  (∀ {cf:au} {fr:Fr} {x y:CX} {sz:Nat},aW fr (.stx sz x y)=[])∧(∀ {o:Option (PV×PV×St)} {as:List PV} {st:St} {k:IntKind} {n:Int},kU o as st (.int k n)= .int k n)∧(∀ {o:Option (PV×PV×St)} {as:List PV} {st:St} {b:Bool},kU o as st (.bool b)= .bool b)∧(∀ {o:Option (PV×PV×St)} {as:List PV} {st:St} {s k:Nat},kU o as st (.ptr s k)= .ptr s k)∧(∀ {t:Nat} {Q:Int→PV→Prop} {fr:Fr} {st:St},xO t Q .ret (fr,st)↔LU Q (fr t) (fr 0) st):=by
 refine⟨?_,?_,?_,?_,rfl,?_,rfl,rfl,rfl,rfl,rfl,rfl,rfl,rfl,rfl,K5,JV,K4,GN⟩
 ·intros;rfl
 ·intros;rfl
 ·intro cf fr st d sz a x;cases d<;>rfl
 ·intro cf fr st d f as;cases d<;>rfl
 ·intros;rfl
end Go.PM
