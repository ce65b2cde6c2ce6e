/- A part of the proof. Conditions: none. -/
import Derived.Test.YtdpamjikmlbmhaaGreatDoorPC
set_option linter.all false
namespace Go.PM
def qm(d s:Nat):bS:=⟨none,some d,.mv (.sl s)⟩
def qi(d:Nat)(n:Int):bS:=⟨none,some d,.mv (.k (.int .i64 n))⟩
def qc(d:Nat)(p:PV):bS:=⟨none,some d,.mv (.k p)⟩
def qb(d:Nat)(op:BinOp)(x y:Nat):bS:=⟨none,some d,.bin op (.sl x) (.sl y)⟩
def qk(d:Nat)(op:BinOp)(x:Nat)(n:Int):bS:=⟨none,some d,.bin op (.sl x) (.k (.int .i64 n))⟩
def ql(d sz:Nat)(ag:Bool)(a:Nat):bS:=⟨none,some d,.load sz ag (.sl a)⟩
def qf(d o x:Nat):bS:=⟨none,some d,.fad o (.sl x)⟩
def qo(d:Nat)(p:ew):bS:=⟨none,some d,p⟩
def qN:PV:= .list 0 [] .nil
def qr(ops:List bS)(c:CC):CC:= .seq (.reg ops []) c
def qd(s:Nat)(a b:CC):CC:= .cond (.sl s) a b
def qe(p:ew):bS:=⟨none,none,p⟩
def qt(d f a:Nat):bS:=⟨none,some d,.call f [.sl a] []⟩
def qu(d f a b:Nat):bS:=⟨none,some d,.call f [.sl a,.sl b] []⟩
def qa(d z a b:Nat):bS:=⟨none,some d,.iad z (.sl a) (.sl b)⟩
def qx(d a b:Nat):bS:=⟨none,some d,.pick (.sl a) (.k (.bool true)) (.sl b)⟩
def qy(d a b:Nat):bS:=⟨none,some d,.pick (.sl a) (.sl b) (.k (.bool false))⟩
def qn(d a:Nat):bS:=⟨none,some d,.len (.sl a)⟩
def qs(z a b:Nat):bS:=⟨none,none,.store z (.sl a) (.sl b)⟩
def qg(o:List bS)(n:Nat)(x:bS)(c:CC):CC:= .seq (.seq (.reg o []) (.cond (.sl n) (.seq (.reg [x] []) .ret) .skip)) c
def F10:bp:=⟨13,0,(
 qr [qo 1 (.box 2 (.sl 0)),qo 2 (.alloc [qN,qN])]
 (qr [qo 3 (.alloc [qN,qN])]
 (qr [qf 4 0 1,ql 5 1 false 4,qt 6 44 5,qf 7 0 3,qs 1 7 6]
 (qr [qf 8 1 1,ql 9 1 false 8,qt 10 45 9,qf 11 1 3,qs 1 11 10]
 (qr [ql 12 2 true 3,qs 2 2 12]
 .ret))))),[.cell 2 2 true],true⟩
def F44:bp:=⟨23,0,(
 qr [qc 2 qN]
 (qr [qm 5 0,qn 6 5,qo 7 (.mks 72 3 56 [(.int .i64 0),qN,qN] (.sl 6) (.sl 6)),qm 3 7]
 (.seq (qr [qi 4 0]
 (.block 0 (.loop (.seq (qr [qm 8 4,qm 9 0,qn 10 9,qb 11 .lss 8 10]
 (qd 11 .skip (.exit 0)))
 (.seq (.block 1 (.reg [qm 14 3,qm 15 4,qm 16 0,qm 17 4,qa 18 3 16 17,ql 19 3 true 18,qt 20 86 19,qa 21 3 14 15,qs 3 21 20] []))
 (.reg [qm 12 4,qk 13 .add 12 1,qm 4 13] []))))))
 (qr [qm 22 3,qm 2 22]
 .ret)))),[.tmp 2],true⟩
def F45:bp:=⟨23,0,(
 qr [qc 2 qN]
 (qr [qm 5 0,qn 6 5,qo 7 (.mks 68 5 64 [(.int .i64 0),(.str ⟨#[]⟩),(.int .i64 0),(.int .i64 0),qN] (.sl 6) (.sl 6)),qm 3 7]
 (.seq (qr [qi 4 0]
 (.block 0 (.loop (.seq (qr [qm 8 4,qm 9 0,qn 10 9,qb 11 .lss 8 10]
 (qd 11 .skip (.exit 0)))
 (.seq (.block 1 (.reg [qm 14 3,qm 15 4,qm 16 0,qm 17 4,qa 18 5 16 17,ql 19 5 true 18,qt 20 87 19,qa 21 5 14 15,qs 5 21 20] []))
 (.reg [qm 12 4,qk 13 .add 12 1,qm 4 13] []))))))
 (qr [qm 22 3,qm 2 22]
 .ret)))),[.tmp 2],true⟩
def F86:bp:=⟨16,0,(
 qr [qo 1 (.box 3 (.sl 0)),qo 2 (.alloc [(.int .i64 0),qN,qN])]
 (qr [qo 3 (.alloc [(.int .i64 0),qN,qN])]
 (qr [qf 4 0 1,ql 5 1 false 4,qf 6 0 3,qs 1 6 5]
 (qr [qf 7 1 1,ql 8 1 false 7,qt 9 122 8,qf 10 1 3,qs 1 10 9]
 (qr [qf 11 2 1,ql 12 1 false 11,qt 13 123 12,qf 14 2 3,qs 1 14 13]
 (qr [ql 15 3 true 3,qs 3 2 15]
 .ret)))))),[.cell 2 3 true],true⟩
def F87:bp:=⟨21,0,(
 qr [qo 1 (.box 5 (.sl 0)),qo 2 (.alloc [(.int .i64 0),(.str ⟨#[]⟩),(.int .i64 0),(.int .i64 0),qN])]
 (qr [qo 3 (.alloc [(.int .i64 0),(.str ⟨#[]⟩),(.int .i64 0),(.int .i64 0),qN])]
 (qr [qf 4 0 1,ql 5 1 false 4,qf 6 0 3,qs 1 6 5]
 (qr [qf 7 1 1,ql 8 1 false 7,qf 9 1 3,qs 1 9 8]
 (qr [qf 10 2 1,ql 11 1 false 10,qf 12 2 3,qs 1 12 11]
 (qr [qf 13 3 1,ql 14 1 false 13,qf 15 3 3,qs 1 15 14]
 (qr [qf 16 4 1,ql 17 1 false 16,qt 18 123 17,qf 19 4 3,qs 1 19 18]
 (qr [ql 20 5 true 3,qs 5 2 20]
 .ret)))))))),[.cell 2 5 true],true⟩
def F122:bp:=⟨22,0,(
 qr [qc 2 qN]
 (qr [qm 5 0,qn 6 5,qo 7 (.mks 9 1 16 [(.str ⟨#[]⟩)] (.sl 6) (.sl 6)),qm 3 7]
 (.seq (qr [qi 4 0]
 (.block 0 (.loop (.seq (qr [qm 8 4,qm 9 0,qn 10 9,qb 11 .lss 8 10]
 (qd 11 .skip (.exit 0)))
 (.seq (.block 1 (.reg [qm 14 3,qm 15 4,qm 16 0,qm 17 4,qa 18 1 16 17,ql 19 1 false 18,qa 20 1 14 15,qs 1 20 19] []))
 (.reg [qm 12 4,qk 13 .add 12 1,qm 4 13] []))))))
 (qr [qm 21 3,qm 2 21]
 .ret)))),[.tmp 2],true⟩
def F123:bp:=⟨23,0,(
 qr [qc 2 qN]
 (qr [qm 5 0,qn 6 5,qo 7 (.mks 133 2 32 [(.str ⟨#[]⟩),(.str ⟨#[]⟩)] (.sl 6) (.sl 6)),qm 3 7]
 (.seq (qr [qi 4 0]
 (.block 0 (.loop (.seq (qr [qm 8 4,qm 9 0,qn 10 9,qb 11 .lss 8 10]
 (qd 11 .skip (.exit 0)))
 (.seq (.block 1 (.reg [qm 14 3,qm 15 4,qm 16 0,qm 17 4,qa 18 2 16 17,ql 19 2 true 18,qt 20 170 19,qa 21 2 14 15,qs 2 21 20] []))
 (.reg [qm 12 4,qk 13 .add 12 1,qm 4 13] []))))))
 (qr [qm 22 3,qm 2 22]
 .ret)))),[.tmp 2],true⟩
def F170:bp:=⟨11,0,(
 qr [qo 1 (.box 2 (.sl 0)),qo 2 (.alloc [(.str ⟨#[]⟩),(.str ⟨#[]⟩)])]
 (qr [qo 3 (.alloc [(.str ⟨#[]⟩),(.str ⟨#[]⟩)])]
 (qr [qf 4 0 1,ql 5 1 false 4,qf 6 0 3,qs 1 6 5]
 (qr [qf 7 1 1,ql 8 1 false 7,qf 9 1 3,qs 1 9 8]
 (qr [ql 10 2 true 3,qs 2 2 10]
 .ret))))),[.cell 2 2 true],true⟩
def F66:bp:=⟨12,0,(
 qr [qo 1 (.box 3 (.sl 0)),qo 2 (.alloc [(.int .i64 0),qN,qN])]
 (qr [qf 3 1 1,ql 4 1 false 3,qt 5 103 4,qf 6 1 1,qs 1 6 5]
 (qr [qf 7 2 1,ql 8 1 false 7,qt 9 108 8,qf 10 2 1,qs 1 10 9]
 (qr [ql 11 3 true 1,qs 3 2 11]
 .ret)))),[.cell 2 3 true],true⟩
def F68:bp:=⟨8,0,(
 qr [qo 1 (.box 5 (.sl 0)),qo 2 (.alloc [(.int .i64 0),(.str ⟨#[]⟩),(.int .i64 0),(.int .i64 0),qN])]
 (qr [qf 3 4 1,ql 4 1 false 3,qt 5 108 4,qf 6 4 1,qs 1 6 5]
 (qr [ql 7 5 true 1,qs 5 2 7]
 .ret))),[.cell 2 5 true],true⟩
def F103:bp:=⟨11,0,(
 qr [qc 2 qN]
 (qg [qm 3 0,qn 4 3,qk 5 .eql 4 0] 5 (qc 2 qN)
 (qr [qm 6 0,qn 7 6,qo 8 (.mk0 9 1 16 (.k (.int .i64 0)) (.sl 7)),qm 9 0,qo 10 (.app 9 1 16 (.sl 8) (.sl 9)),qm 2 10]
 .ret))),[.tmp 2],true⟩
def F108:bp:=⟨11,0,(
 qr [qc 2 qN]
 (qg [qm 3 0,qn 4 3,qk 5 .eql 4 0] 5 (qc 2 qN)
 (qr [qm 6 0,qn 7 6,qo 8 (.mk0 133 2 32 (.k (.int .i64 0)) (.sl 7)),qm 9 0,qo 10 (.app 133 2 32 (.sl 8) (.sl 9)),qm 2 10]
 .ret))),[.tmp 2],true⟩
def F8:bp:=⟨18,0,(
 qr [qo 2 (.box 2 (.sl 0)),qi 4 0]
 (qr [qf 5 0 2,ql 6 1 false 5,qm 7 1,qu 8 38 6 7,qm 1 8]
 (qg [qm 9 1,qk 10 .lss 9 0] 10 (qi 4 (-1))
 (qr [qf 11 1 2,ql 12 1 false 11,qm 13 1,qu 14 39 12 13,qm 1 14]
 (qg [qm 15 1,qk 16 .lss 15 0] 16 (qi 4 (-1))
 (qr [qm 17 1,qm 4 17]
 .ret)))))),[.tmp 4],false⟩
def F13:bp:=⟨17,0,(
 qr [qo 2 (.box 2 (.sl 0)),qo 3 (.box 2 (.sl 1)),qc 4 (.bool false)]
 (qg [qf 5 0 2,ql 6 1 false 5,qf 7 0 3,ql 8 1 false 7,qu 9 48 6 8,qo 10 (.un .not (.sl 9))] 10 (qc 4 (.bool false))
 (qg [qf 11 1 2,ql 12 1 false 11,qf 13 1 3,ql 14 1 false 13,qu 15 49 12 14,qo 16 (.un .not (.sl 15))] 16 (qc 4 (.bool false))
 (qr [qc 4 (.bool true)]
 .ret)))),[.tmp 4],false⟩
def F38:bp:=⟨27,0,(
 qr [qi 4 0]
 (qr [qm 6 1,qm 7 0,qn 8 7,qb 9 .sub 6 8,qm 1 9]
 (qg [qm 10 1,qk 11 .lss 10 0] 11 (qi 4 (-1))
 (.seq (qr [qi 5 0]
 (.block 0 (.loop (.seq (qr [qm 12 5,qm 13 0,qn 14 13,qb 15 .lss 12 14]
 (qd 15 .skip (.exit 0)))
 (.seq (.block 1 (qr [qm 18 0,qm 19 5,qa 20 3 18 19,ql 21 3 true 20,qm 22 1,qu 23 79 21 22,qm 1 23]
 (qr [qm 24 1,qk 25 .lss 24 0]
 (qd 25 (qr [qi 4 (-1)]
 .ret) .skip))))
 (.reg [qm 16 5,qk 17 .add 16 1,qm 5 17] []))))))
 (qr [qm 26 1,qm 4 26]
 .ret))))),[.tmp 4],false⟩
def F39:bp:=⟨27,0,(
 qr [qi 4 0]
 (qr [qm 6 1,qm 7 0,qn 8 7,qb 9 .sub 6 8,qm 1 9]
 (qg [qm 10 1,qk 11 .lss 10 0] 11 (qi 4 (-1))
 (.seq (qr [qi 5 0]
 (.block 0 (.loop (.seq (qr [qm 12 5,qm 13 0,qn 14 13,qb 15 .lss 12 14]
 (qd 15 .skip (.exit 0)))
 (.seq (.block 1 (qr [qm 18 0,qm 19 5,qa 20 5 18 19,ql 21 5 true 20,qm 22 1,qu 23 80 21 22,qm 1 23]
 (qr [qm 24 1,qk 25 .lss 24 0]
 (qd 25 (qr [qi 4 (-1)]
 .ret) .skip))))
 (.reg [qm 16 5,qk 17 .add 16 1,qm 5 17] []))))))
 (qr [qm 26 1,qm 4 26]
 .ret))))),[.tmp 4],false⟩
def F48:bp:=⟨27,0,(
 qr [qc 4 (.bool false)]
 (qg [qm 6 0,qn 7 6,qm 8 1,qn 9 8,qb 10 .neq 7 9] 10 (qc 4 (.bool false))
 (.seq (qr [qi 5 0]
 (.block 0 (.loop (.seq (qr [qm 11 5,qm 12 0,qn 13 12,qb 14 .lss 11 13]
 (qd 14 .skip (.exit 0)))
 (.seq (.block 1 (qr [qm 17 0,qm 18 5,qa 19 3 17 18,ql 20 3 true 19,qm 21 1,qm 22 5,qa 23 3 21 22,ql 24 3 true 23,qu 25 93 20 24,qo 26 (.un .not (.sl 25))]
 (qd 26 (qr [qc 4 (.bool false)]
 .ret) .skip)))
 (.reg [qm 15 5,qk 16 .add 15 1,qm 5 16] []))))))
 (qr [qc 4 (.bool true)]
 .ret)))),[.tmp 4],false⟩
def F49:bp:=⟨27,0,(
 qr [qc 4 (.bool false)]
 (qg [qm 6 0,qn 7 6,qm 8 1,qn 9 8,qb 10 .neq 7 9] 10 (qc 4 (.bool false))
 (.seq (qr [qi 5 0]
 (.block 0 (.loop (.seq (qr [qm 11 5,qm 12 0,qn 13 12,qb 14 .lss 11 13]
 (qd 14 .skip (.exit 0)))
 (.seq (.block 1 (qr [qm 17 0,qm 18 5,qa 19 5 17 18,ql 20 5 true 19,qm 21 1,qm 22 5,qa 23 5 21 22,ql 24 5 true 23,qu 25 94 20 24,qo 26 (.un .not (.sl 25))]
 (qd 26 (qr [qc 4 (.bool false)]
 .ret) .skip)))
 (.reg [qm 15 5,qk 16 .add 15 1,qm 5 16] []))))))
 (qr [qc 4 (.bool true)]
 .ret)))),[.tmp 4],false⟩
def F52:bp:=⟨40,0,(
 qr [qi 4 0]
 (.seq (qr [qi 5 0]
 (.block 0 (.loop (.seq (qr [qm 6 5,qm 7 0,qn 8 7,qb 9 .lss 6 8]
 (qd 9 .skip (.exit 0)))
 (.seq (.block 1 (qg [qm 12 0,qm 13 5,qa 14 3 12 13,qf 15 0 14,ql 16 1 false 15,qm 17 1,qb 18 .neq 16 17] 18 (qi 4 (-1))
 (qr [qm 19 1,qk 20 .add 19 1,qm 1 20]
 (qr [qm 21 0,qm 22 5,qa 23 3 21 22,qf 24 1 23,ql 25 1 false 24,qm 26 1,qu 27 60 25 26,qm 1 27]
 (qg [qm 28 1,qk 29 .lss 28 0] 29 (qi 4 (-1))
 (qr [qm 30 0,qm 31 5,qa 32 3 30 31,qf 33 2 32,ql 34 1 false 33,qm 35 1,qu 36 61 34 35,qm 1 36]
 (qr [qm 37 1,qk 38 .lss 37 0]
 (qd 38 (qr [qi 4 (-1)]
 .ret) .skip))))))))
 (.reg [qm 10 5,qk 11 .add 10 1,qm 5 11] []))))))
 (qr [qm 39 1,qm 4 39]
 .ret))),[.tmp 4],false⟩
def F53:bp:=⟨59,0,(
 qr [qi 4 0]
 (.seq (qr [qi 5 0]
 (.block 0 (.loop (.seq (qr [qm 6 5,qm 7 0,qn 8 7,qb 9 .lss 6 8]
 (qd 9 .skip (.exit 0)))
 (.seq (.block 1 (qg [qm 12 0,qm 13 5,qa 14 5 12 13,qf 15 0 14,ql 16 1 false 15,qm 17 1,qb 18 .neq 16 17] 18 (qi 4 (-1))
 (qr [qm 19 1,qk 20 .add 19 1,qm 1 20]
 (.seq (.seq (.reg [qm 21 0,qm 22 5,qa 23 5 21 22,qf 24 1 23,ql 25 1 false 24,qm 26 1,qt 27 59 26,qb 28 .neq 25 27] [(4,6)])
 (qd 28 (qr [qi 4 (-1)]
 .ret) .skip))
 (qr [qm 29 1,qk 30 .add 29 1,qm 1 30]
 (qg [qm 31 0,qm 32 5,qa 33 5 31 32,qf 34 2 33,ql 35 1 false 34,qm 36 1,qb 37 .neq 35 36] 37 (qi 4 (-1))
 (qr [qm 38 1,qk 39 .add 38 1,qm 1 39]
 (qg [qm 40 0,qm 41 5,qa 42 5 40 41,qf 43 3 42,ql 44 1 false 43,qm 45 1,qb 46 .neq 44 45] 46 (qi 4 (-1))
 (qr [qm 47 1,qk 48 .add 47 1,qm 1 48]
 (qr [qm 49 0,qm 50 5,qa 51 5 49 50,qf 52 4 51,ql 53 1 false 52,qm 54 1,qu 55 61 53 54,qm 1 55]
 (qr [qm 56 1,qk 57 .lss 56 0]
 (qd 57 (qr [qi 4 (-1)]
 .ret) .skip))))))))))))
 (.reg [qm 10 5,qk 11 .add 10 1,qm 5 11] []))))))
 (qr [qm 58 1,qm 4 58]
 .ret))),[.tmp 4],false⟩
def F59:bp:=⟨20,0,(
 qr [qc 2 (.str ⟨#[]⟩)]
 (qg [qm 4 0,qk 5 .leq 4 0] 5 (qc 2 (.str ⟨#[109,48]⟩))
 (qr [qc 3 (.str ⟨#[]⟩)]
 (.seq (.block 0 (.loop (.seq (qr [qm 6 0,qk 7 .gtr 6 0]
 (qd 7 .skip (.exit 0)))
 (.block 1 (qr [qm 8 0,qk 9 .rem 8 10,qo 10 (.bin .add (.k (.int .i64 48)) (.sl 9)),qo 11 (.toInt .u8 (.sl 10)),qo 12 (.bsl 5 1 [(.int .u8 0)] 1 [(0,1,(.sl 11))]),qo 13 (.b2s (.sl 12)),qm 14 3,qb 15 .add 13 14,qm 3 15]
 (.reg [qm 16 0,qk 17 .quo 16 10,qm 0 17] []))))))
 (qr [qm 18 3,qo 19 (.bin .add (.k (.str ⟨#[109]⟩)) (.sl 18)),qm 2 19]
 .ret))))),[.tmp 2],false⟩
def F60:bp:=⟨22,0,(
 qr [qi 4 0]
 (.seq (qr [qi 5 0]
 (.block 0 (.loop (.seq (qr [qm 6 5,qm 7 0,qn 8 7,qb 9 .lss 6 8]
 (qd 9 .skip (.exit 0)))
 (.seq (.block 1 (.seq (.seq (.reg [qm 12 0,qm 13 5,qa 14 1 12 13,ql 15 1 false 14,qm 16 1,qt 17 59 16,qb 18 .neq 15 17] [(3,5)])
 (qd 18 (qr [qi 4 (-1)]
 .ret) .skip))
 (.reg [qm 19 1,qk 20 .add 19 1,qm 1 20] [])))
 (.reg [qm 10 5,qk 11 .add 10 1,qm 5 11] []))))))
 (qr [qm 21 1,qm 4 21]
 .ret))),[.tmp 4],false⟩
def F61:bp:=⟨33,0,(
 qr [qi 4 0]
 (.seq (qr [qi 5 0]
 (.block 0 (.loop (.seq (qr [qm 6 5,qm 7 0,qn 8 7,qb 9 .lss 6 8]
 (qd 9 .skip (.exit 0)))
 (.seq (.block 1 (.seq (.seq (.reg [qm 12 0,qm 13 5,qa 14 2 12 13,qf 15 0 14,ql 16 1 false 15,qm 17 1,qt 18 59 17,qb 19 .neq 16 18] [(4,6)])
 (qd 19 (qr [qi 4 (-1)]
 .ret) .skip))
 (qr [qm 20 1,qk 21 .add 20 1,qm 1 21]
 (.seq (.seq (.reg [qm 22 0,qm 23 5,qa 24 2 22 23,qf 25 1 24,ql 26 1 false 25,qm 27 1,qt 28 59 27,qb 29 .neq 26 28] [(4,6)])
 (qd 29 (qr [qi 4 (-1)]
 .ret) .skip))
 (.reg [qm 30 1,qk 31 .add 30 1,qm 1 31] [])))))
 (.reg [qm 10 5,qk 11 .add 10 1,qm 5 11] []))))))
 (qr [qm 32 1,qm 4 32]
 .ret))),[.tmp 4],false⟩
def F79:bp:=⟨18,0,(
 qr [qo 2 (.box 3 (.sl 0)),qi 4 0]
 (qr [qf 5 1 2,ql 6 1 false 5,qm 7 1,qu 8 116 6 7,qm 1 8]
 (qg [qm 9 1,qk 10 .lss 9 0] 10 (qi 4 (-1))
 (qr [qf 11 2 2,ql 12 1 false 11,qm 13 1,qu 14 117 12 13,qm 1 14]
 (qg [qm 15 1,qk 16 .lss 15 0] 16 (qi 4 (-1))
 (qr [qm 17 1,qm 4 17]
 .ret)))))),[.tmp 4],false⟩
def F80:bp:=⟨19,0,(
 qr [qo 2 (.box 5 (.sl 0)),qi 4 0]
 (qr [qm 5 1,qf 6 1 2,ql 7 1 false 6,qo 8 (.slen (.sl 7)),qb 9 .sub 5 8,qm 1 9]
 (qg [qm 10 1,qk 11 .lss 10 0] 11 (qi 4 (-1))
 (qr [qf 12 4 2,ql 13 1 false 12,qm 14 1,qu 15 117 13 14,qm 1 15]
 (qg [qm 16 1,qk 17 .lss 16 0] 17 (qi 4 (-1))
 (qr [qm 18 1,qm 4 18]
 .ret)))))),[.tmp 4],false⟩
def F93:bp:=⟨22,0,(
 qr [qo 2 (.box 3 (.sl 0)),qo 3 (.box 3 (.sl 1)),qc 4 (.bool false)]
 (qg [qf 5 0 2,ql 6 1 false 5,qf 7 0 3,ql 8 1 false 7,qb 9 .neq 6 8] 9 (qc 4 (.bool false))
 (qg [qf 10 1 2,ql 11 1 false 10,qf 12 1 3,ql 13 1 false 12,qu 14 129 11 13,qo 15 (.un .not (.sl 14))] 15 (qc 4 (.bool false))
 (qg [qf 16 2 2,ql 17 1 false 16,qf 18 2 3,ql 19 1 false 18,qu 20 130 17 19,qo 21 (.un .not (.sl 20))] 21 (qc 4 (.bool false))
 (qr [qc 4 (.bool true)]
 .ret))))),[.tmp 4],false⟩
def F94:bp:=⟨31,0,(
 qr [qo 2 (.box 5 (.sl 0)),qo 3 (.box 5 (.sl 1)),qc 4 (.bool false)]
 (qg [qf 5 0 2,ql 6 1 false 5,qf 7 0 3,ql 8 1 false 7,qb 9 .neq 6 8] 9 (qc 4 (.bool false))
 (qg [qf 10 1 2,ql 11 1 false 10,qf 12 1 3,ql 13 1 false 12,qb 14 .neq 11 13] 14 (qc 4 (.bool false))
 (qg [qf 15 2 2,ql 16 1 false 15,qf 17 2 3,ql 18 1 false 17,qb 19 .neq 16 18] 19 (qc 4 (.bool false))
 (qg [qf 20 3 2,ql 21 1 false 20,qf 22 3 3,ql 23 1 false 22,qb 24 .neq 21 23] 24 (qc 4 (.bool false))
 (qg [qf 25 4 2,ql 26 1 false 25,qf 27 4 3,ql 28 1 false 27,qu 29 130 26 28,qo 30 (.un .not (.sl 29))] 30 (qc 4 (.bool false))
 (qr [qc 4 (.bool true)]
 .ret))))))),[.tmp 4],false⟩
def F116:bp:=⟨28,0,(
 qr [qi 4 0]
 (qr [qm 6 1,qm 7 0,qn 8 7,qb 9 .sub 6 8,qm 1 9]
 (qg [qm 10 1,qk 11 .lss 10 0] 11 (qi 4 (-1))
 (.seq (qr [qi 5 0]
 (.block 0 (.loop (.seq (qr [qm 12 5,qm 13 0,qn 14 13,qb 15 .lss 12 14]
 (qd 15 .skip (.exit 0)))
 (.seq (.block 1 (qr [qm 18 1,qm 19 0,qm 20 5,qa 21 1 19 20,ql 22 1 false 21,qo 23 (.slen (.sl 22)),qb 24 .sub 18 23,qm 1 24]
 (qr [qm 25 1,qk 26 .lss 25 0]
 (qd 26 (qr [qi 4 (-1)]
 .ret) .skip))))
 (.reg [qm 16 5,qk 17 .add 16 1,qm 5 17] []))))))
 (qr [qm 27 1,qm 4 27]
 .ret))))),[.tmp 4],false⟩
def F117:bp:=⟨27,0,(
 qr [qi 4 0]
 (qr [qm 6 1,qm 7 0,qn 8 7,qb 9 .sub 6 8,qm 1 9]
 (qg [qm 10 1,qk 11 .lss 10 0] 11 (qi 4 (-1))
 (.seq (qr [qi 5 0]
 (.block 0 (.loop (.seq (qr [qm 12 5,qm 13 0,qn 14 13,qb 15 .lss 12 14]
 (qd 15 .skip (.exit 0)))
 (.seq (.block 1 (qr [qm 18 0,qm 19 5,qa 20 2 18 19,ql 21 2 true 20,qm 22 1,qu 23 165 21 22,qm 1 23]
 (qr [qm 24 1,qk 25 .lss 24 0]
 (qd 25 (qr [qi 4 (-1)]
 .ret) .skip))))
 (.reg [qm 16 5,qk 17 .add 16 1,qm 5 17] []))))))
 (qr [qm 26 1,qm 4 26]
 .ret))))),[.tmp 4],false⟩
def F129:bp:=⟨26,0,(
 qr [qc 4 (.bool false)]
 (qg [qm 6 0,qn 7 6,qm 8 1,qn 9 8,qb 10 .neq 7 9] 10 (qc 4 (.bool false))
 (.seq (qr [qi 5 0]
 (.block 0 (.loop (.seq (qr [qm 11 5,qm 12 0,qn 13 12,qb 14 .lss 11 13]
 (qd 14 .skip (.exit 0)))
 (.seq (.block 1 (qr [qm 17 0,qm 18 5,qa 19 1 17 18,ql 20 1 false 19,qm 21 1,qm 22 5,qa 23 1 21 22,ql 24 1 false 23,qb 25 .neq 20 24]
 (qd 25 (qr [qc 4 (.bool false)]
 .ret) .skip)))
 (.reg [qm 15 5,qk 16 .add 15 1,qm 5 16] []))))))
 (qr [qc 4 (.bool true)]
 .ret)))),[.tmp 4],false⟩
def F130:bp:=⟨27,0,(
 qr [qc 4 (.bool false)]
 (qg [qm 6 0,qn 7 6,qm 8 1,qn 9 8,qb 10 .neq 7 9] 10 (qc 4 (.bool false))
 (.seq (qr [qi 5 0]
 (.block 0 (.loop (.seq (qr [qm 11 5,qm 12 0,qn 13 12,qb 14 .lss 11 13]
 (qd 14 .skip (.exit 0)))
 (.seq (.block 1 (qr [qm 17 0,qm 18 5,qa 19 2 17 18,ql 20 2 true 19,qm 21 1,qm 22 5,qa 23 2 21 22,ql 24 2 true 23,qu 25 176 20 24,qo 26 (.un .not (.sl 25))]
 (qd 26 (qr [qc 4 (.bool false)]
 .ret) .skip)))
 (.reg [qm 15 5,qk 16 .add 15 1,qm 5 16] []))))))
 (qr [qc 4 (.bool true)]
 .ret)))),[.tmp 4],false⟩
def F165:bp:=⟨20,0,(
 qr [qo 2 (.box 2 (.sl 0)),qi 4 0]
 (qr [qm 5 1,qf 6 0 2,ql 7 1 false 6,qo 8 (.slen (.sl 7)),qb 9 .sub 5 8,qm 1 9]
 (qg [qm 10 1,qk 11 .lss 10 0] 11 (qi 4 (-1))
 (qr [qm 12 1,qf 13 1 2,ql 14 1 false 13,qo 15 (.slen (.sl 14)),qb 16 .sub 12 15,qm 1 16]
 (qg [qm 17 1,qk 18 .lss 17 0] 18 (qi 4 (-1))
 (qr [qm 19 1,qm 4 19]
 .ret)))))),[.tmp 4],false⟩
def F176:bp:=⟨15,0,(
 qr [qo 2 (.box 2 (.sl 0)),qo 3 (.box 2 (.sl 1)),qc 4 (.bool false)]
 (qg [qf 5 0 2,ql 6 1 false 5,qf 7 0 3,ql 8 1 false 7,qb 9 .neq 6 8] 9 (qc 4 (.bool false))
 (qg [qf 10 1 2,ql 11 1 false 10,qf 12 1 3,ql 13 1 false 12,qb 14 .neq 11 13] 14 (qc 4 (.bool false))
 (qr [qc 4 (.bool true)]
 .ret)))),[.tmp 4],false⟩
def F40:bp:=⟨95,0,(
 qr [qo 1 (.box 2 (.sl 0)),qi 2 0]
 (qg [qf 6 0 1,ql 7 1 false 6,qn 8 7,qk 9 .gtr 8 200,qm 10 9,⟨(some (10,false)),(some 11),.fad 1 (.sl 1)⟩,⟨(some (10,false)),(some 12),.load 1 false (.sl 11)⟩,⟨(some (10,false)),(some 13),.len (.sl 12)⟩,⟨(some (10,false)),(some 14),.bin .gtr (.sl 13) (.k (.int .i64 400))⟩,qx 15 10 14] 15 (qi 2 1)
 (.seq (qr [qi 3 0]
 (.block 0 (.loop (.seq (qr [qm 16 3,qf 17 0 1,ql 18 1 false 17,qn 19 18,qb 20 .lss 16 19]
 (qd 20 .skip (.exit 0)))
 (.seq (.block 1 (qr [qf 23 0 1,ql 24 1 false 23,qm 25 3,qa 26 3 24 25,ql 27 3 true 26,qt 28 81 27,qo 29 (.un .not (.sl 28)),qm 30 29,⟨(some (30,false)),(some 31),.mv (.sl 3)⟩,⟨(some (30,false)),(some 32),.bin .gtr (.sl 31) (.k (.int .i64 0))⟩,⟨(some (30,false)),(some 33),.mv (.sl 32)⟩,⟨(some (33,true)),(some 34),.fad 0 (.sl 1)⟩,⟨(some (33,true)),(some 35),.load 1 false (.sl 34)⟩,⟨(some (33,true)),(some 36),.mv (.sl 3)⟩,⟨(some (33,true)),(some 37),.bin .sub (.sl 36) (.k (.int .i64 1))⟩,⟨(some (33,true)),(some 38),.iad 3 (.sl 35) (.sl 37)⟩,⟨(some (33,true)),(some 39),.fad 0 (.sl 38)⟩,⟨(some (33,true)),(some 40),.load 1 false (.sl 39)⟩,⟨(some (33,true)),(some 41),.fad 0 (.sl 1)⟩,⟨(some (33,true)),(some 42),.load 1 false (.sl 41)⟩,⟨(some (33,true)),(some 43),.mv (.sl 3)⟩,⟨(some (33,true)),(some 44),.iad 3 (.sl 42) (.sl 43)⟩,⟨(some (33,true)),(some 45),.fad 0 (.sl 44)⟩,⟨(some (33,true)),(some 46),.load 1 false (.sl 45)⟩,⟨(some (33,true)),(some 47),.bin .geq (.sl 40) (.sl 46)⟩,⟨(some (30,false)),(some 48),.pick (.sl 33) (.sl 47) (.k (.bool false))⟩,qx 49 30 48]
 (qd 49 (qr [qi 2 1]
 .ret) .skip)))
 (.reg [qm 21 3,qk 22 .add 21 1,qm 3 22] []))))))
 (.seq (qr [qi 4 0]
 (.block 2 (.loop (.seq (qr [qm 50 4,qf 51 1 1,ql 52 1 false 51,qn 53 52,qb 54 .lss 50 53]
 (qd 54 .skip (.exit 2)))
 (.seq (.block 3 (qr [qf 57 1 1,ql 58 1 false 57,qm 59 4,qa 60 5 58 59,ql 61 5 true 60,qo 5 (.alloc [(.int .i64 0),(.str ⟨#[]⟩),(.int .i64 0),(.int .i64 0),qN]),qs 5 5 61]
 (qr [ql 62 5 true 5,qt 63 82 62,qo 64 (.un .not (.sl 63)),qm 65 64,⟨(some (65,false)),(some 66),.mv (.sl 4)⟩,⟨(some (65,false)),(some 67),.bin .gtr (.sl 66) (.k (.int .i64 0))⟩,⟨(some (65,false)),(some 68),.mv (.sl 67)⟩,⟨(some (68,true)),(some 69),.fad 1 (.sl 1)⟩,⟨(some (68,true)),(some 70),.load 1 false (.sl 69)⟩,⟨(some (68,true)),(some 71),.mv (.sl 4)⟩,⟨(some (68,true)),(some 72),.bin .sub (.sl 71) (.k (.int .i64 1))⟩,⟨(some (68,true)),(some 73),.iad 5 (.sl 70) (.sl 72)⟩,⟨(some (68,true)),(some 74),.fad 0 (.sl 73)⟩,⟨(some (68,true)),(some 75),.load 1 false (.sl 74)⟩,⟨(some (68,true)),(some 76),.fad 0 (.sl 5)⟩,⟨(some (68,true)),(some 77),.load 1 false (.sl 76)⟩,⟨(some (68,true)),(some 78),.bin .geq (.sl 75) (.sl 77)⟩,⟨(some (65,false)),(some 79),.pick (.sl 68) (.sl 78) (.k (.bool false))⟩,qx 80 65 79,qm 81 80,⟨(some (81,false)),(some 82),.load 2 true (.sl 1)⟩,⟨(some (81,false)),(some 83),.fad 2 (.sl 5)⟩,⟨(some (81,false)),(some 84),.load 1 false (.sl 83)⟩,⟨(some (81,false)),(some 85),.call 83 [(.sl 82),(.sl 84)] []⟩,⟨(some (81,false)),(some 86),.bin .lss (.sl 85) (.k (.int .i64 0))⟩,qx 87 81 86,qm 88 87,⟨(some (88,false)),(some 89),.load 2 true (.sl 1)⟩,⟨(some (88,false)),(some 90),.fad 3 (.sl 5)⟩,⟨(some (88,false)),(some 91),.load 1 false (.sl 90)⟩,⟨(some (88,false)),(some 92),.call 83 [(.sl 89),(.sl 91)] []⟩,⟨(some (88,false)),(some 93),.bin .lss (.sl 92) (.k (.int .i64 0))⟩,qx 94 88 93]
 (qd 94 (qr [qi 2 1]
 .ret) .skip))))
 (.reg [qm 55 4,qk 56 .add 55 1,qm 4 56] []))))))
 (qr [qi 2 0]
 .ret))))),[.tmp 2],false⟩
def F41:bp:=⟨8,0,(
 qr [qo 1 (.box 5 (.sl 0)),qo 2 (.alloc [(.int .i64 0),(.str ⟨#[]⟩),(.int .i64 0),(.int .i64 0),qN])]
 (qr [qf 3 4 1,ql 4 1 false 3,qt 5 84 4,qf 6 4 1,qs 1 6 5]
 (qr [ql 7 5 true 1,qs 5 2 7]
 .ret))),[.cell 2 5 true],false⟩
def F42:bp:=⟨12,0,(
 qr [qo 1 (.box 3 (.sl 0)),qo 2 (.alloc [(.int .i64 0),qN,qN])]
 (.seq (.reg [qf 3 0 1,ql 4 1 false 3,qf 5 1 1,ql 6 1 false 5,qt 7 85 6,qf 8 2 1,ql 9 1 false 8,qt 10 84 9,qo 11 (.build [(.int .i64 0),qN,qN] [(0,1,(.sl 4)),(1,1,(.sl 7)),(2,1,(.sl 10))]),qs 3 2 11] [(1,4),(4,6),(1,7)])
 .ret)),[.cell 2 3 true],false⟩
def F43:bp:=⟨52,0,(
 qr [qo 3 (.box 2 (.sl 0)),qc 6 qN]
 (qr [qo 9 (.bsl 2 1 [(.int .i64 0)] 0 []),qm 7 9]
 (.seq (qr [qi 8 0]
 (.block 0 (.loop (.seq (qr [qm 10 8,qf 11 1 3,ql 12 1 false 11,qn 13 12,qb 14 .lss 10 13]
 (qd 14 .skip (.exit 0)))
 (.seq (.block 1 (qr [qm 17 2,qm 18 17,⟨(some (18,true)),(some 19),.fad 1 (.sl 3)⟩,⟨(some (18,true)),(some 20),.load 1 false (.sl 19)⟩,⟨(some (18,true)),(some 21),.mv (.sl 8)⟩,⟨(some (18,true)),(some 22),.iad 5 (.sl 20) (.sl 21)⟩,⟨(some (18,true)),(some 23),.fad 2 (.sl 22)⟩,⟨(some (18,true)),(some 24),.load 1 false (.sl 23)⟩,⟨(some (18,true)),(some 25),.mv (.sl 1)⟩,⟨(some (18,true)),(some 26),.bin .eql (.sl 24) (.sl 25)⟩,qy 27 18 26,qm 28 27,⟨(some (28,false)),(some 29),.mv (.sl 2)⟩,⟨(some (28,false)),(some 30),.un .not (.sl 29)⟩,⟨(some (28,false)),(some 31),.mv (.sl 30)⟩,⟨(some (31,true)),(some 32),.fad 1 (.sl 3)⟩,⟨(some (31,true)),(some 33),.load 1 false (.sl 32)⟩,⟨(some (31,true)),(some 34),.mv (.sl 8)⟩,⟨(some (31,true)),(some 35),.iad 5 (.sl 33) (.sl 34)⟩,⟨(some (31,true)),(some 36),.fad 3 (.sl 35)⟩,⟨(some (31,true)),(some 37),.load 1 false (.sl 36)⟩,⟨(some (31,true)),(some 38),.mv (.sl 1)⟩,⟨(some (31,true)),(some 39),.bin .eql (.sl 37) (.sl 38)⟩,⟨(some (28,false)),(some 40),.pick (.sl 31) (.sl 39) (.k (.bool false))⟩,qx 41 28 40]
 (qd 41 (.reg [qm 42 7,qf 43 1 3,ql 44 1 false 43,qm 45 8,qa 46 5 44 45,qf 47 0 46,ql 48 1 false 47,qo 49 (.bsl 2 1 [(.int .i64 0)] 1 [(0,1,(.sl 48))]),qo 50 (.app 2 1 8 (.sl 42) (.sl 49)),qm 7 50] []) .skip)))
 (.reg [qm 15 8,qk 16 .add 15 1,qm 8 16] []))))))
 (qr [qm 51 7,qm 6 51]
 .ret)))),[.tmp 6],false⟩
def F81:bp:=⟨16,0,(
 qr [qo 1 (.box 3 (.sl 0)),qc 2 (.bool false)]
 (qr [qf 3 0 1,ql 4 1 false 3,qt 5 118 4,qm 6 5,⟨(some (6,true)),(some 7),.fad 1 (.sl 1)⟩,⟨(some (6,true)),(some 8),.load 1 false (.sl 7)⟩,⟨(some (6,true)),(some 9),.call 119 [.sl 8] []⟩,qy 10 6 9,qm 11 10,⟨(some (11,true)),(some 12),.fad 2 (.sl 1)⟩,⟨(some (11,true)),(some 13),.load 1 false (.sl 12)⟩,⟨(some (11,true)),(some 14),.call 120 [.sl 13] []⟩,qy 15 11 14,qm 2 15]
 .ret)),[.tmp 2],false⟩
def F82:bp:=⟨26,0,(
 qr [qo 1 (.box 5 (.sl 0)),qc 2 (.bool false)]
 (qr [qf 3 0 1,ql 4 1 false 3,qt 5 118 4,qm 6 5,⟨(some (6,true)),(some 7),.fad 1 (.sl 1)⟩,⟨(some (6,true)),(some 8),.load 1 false (.sl 7)⟩,⟨(some (6,true)),(some 9),.call 121 [.sl 8] []⟩,qy 10 6 9,qm 11 10,⟨(some (11,true)),(some 12),.fad 2 (.sl 1)⟩,⟨(some (11,true)),(some 13),.load 1 false (.sl 12)⟩,⟨(some (11,true)),(some 14),.call 118 [.sl 13] []⟩,qy 15 11 14,qm 16 15,⟨(some (16,true)),(some 17),.fad 3 (.sl 1)⟩,⟨(some (16,true)),(some 18),.load 1 false (.sl 17)⟩,⟨(some (16,true)),(some 19),.call 118 [.sl 18] []⟩,qy 20 16 19,qm 21 20,⟨(some (21,true)),(some 22),.fad 4 (.sl 1)⟩,⟨(some (21,true)),(some 23),.load 1 false (.sl 22)⟩,⟨(some (21,true)),(some 24),.call 120 [.sl 23] []⟩,qy 25 21 24,qm 2 25]
 .ret)),[.tmp 2],false⟩
def F83:bp:=⟨22,0,(
 qr [qo 2 (.box 2 (.sl 0)),qi 4 0]
 (.seq (qr [qi 5 0]
 (.block 0 (.loop (.seq (qr [qm 6 5,qf 7 0 2,ql 8 1 false 7,qn 9 8,qb 10 .lss 6 9]
 (qd 10 .skip (.exit 0)))
 (.seq (.block 1 (qr [qf 13 0 2,ql 14 1 false 13,qm 15 5,qa 16 3 14 15,qf 17 0 16,ql 18 1 false 17,qm 19 1,qb 20 .eql 18 19]
 (qd 20 (qr [qm 21 5,qm 4 21]
 .ret) .skip)))
 (.reg [qm 11 5,qk 12 .add 11 1,qm 5 12] []))))))
 (qr [qi 4 (-1)]
 .ret))),[.tmp 4],false⟩
def F84:bp:=⟨6,0,(
 qr [qc 2 qN]
 (qr [qo 3 (.bsl 133 2 [(.str ⟨#[]⟩),(.str ⟨#[]⟩)] 0 []),qm 4 0,qo 5 (.app 133 2 32 (.sl 3) (.sl 4)),qm 2 5]
 .ret)),[.tmp 2],false⟩
def F85:bp:=⟨6,0,(
 qr [qc 2 qN]
 (qr [qo 3 (.bsl 9 1 [(.str ⟨#[]⟩)] 0 []),qm 4 0,qo 5 (.app 9 1 16 (.sl 3) (.sl 4)),qm 2 5]
 .ret)),[.tmp 2],false⟩
def F118:bp:=⟨9,0,(
 qr [qc 2 (.bool false)]
 (qr [qm 3 0,qk 4 .geq 3 1,qm 5 4,⟨(some (5,true)),(some 6),.mv (.sl 0)⟩,⟨(some (5,true)),(some 7),.bin .leq (.sl 6) (.k (.int .i64 1000000000000))⟩,qy 8 5 7,qm 2 8]
 .ret)),[.tmp 2],false⟩
def F119:bp:=⟨24,0,(
 qr [qc 2 (.bool false)]
 (qg [qm 4 0,qn 5 4,qk 6 .gtr 5 10,qm 7 6,⟨(some (7,false)),(some 8),.mv (.sl 0)⟩,⟨(some (7,false)),(some 9),.call 166 [.sl 8] []⟩,⟨(some (7,false)),(some 10),.un .not (.sl 9)⟩,qx 11 7 10] 11 (qc 2 (.bool false))
 (.seq (qr [qi 3 0]
 (.block 0 (.loop (.seq (qr [qm 12 3,qm 13 0,qn 14 13,qb 15 .lss 12 14]
 (qd 15 .skip (.exit 0)))
 (.seq (.block 1 (qr [qm 18 0,qm 19 3,qa 20 1 18 19,ql 21 1 false 20,qt 22 121 21,qo 23 (.un .not (.sl 22))]
 (qd 23 (qr [qc 2 (.bool false)]
 .ret) .skip)))
 (.reg [qm 16 3,qk 17 .add 16 1,qm 3 17] []))))))
 (qr [qc 2 (.bool true)]
 .ret)))),[.tmp 2],false⟩
def F120:bp:=⟨47,0,(
 qr [qc 2 (.bool false)]
 (qg [qm 4 0,qn 5 4,qk 6 .gtr 5 20] 6 (qc 2 (.bool false))
 (.seq (qr [qi 3 0]
 (.block 0 (.loop (.seq (qr [qm 7 3,qm 8 0,qn 9 8,qb 10 .lss 7 9]
 (qd 10 .skip (.exit 0)))
 (.seq (.block 1 (qr [qm 13 0,qm 14 3,qa 15 2 13 14,qf 16 0 15,ql 17 1 false 16,qt 18 121 17,qo 19 (.un .not (.sl 18)),qm 20 19,⟨(some (20,false)),(some 21),.mv (.sl 3)⟩,⟨(some (20,false)),(some 22),.bin .gtr (.sl 21) (.k (.int .i64 0))⟩,⟨(some (20,false)),(some 23),.mv (.sl 22)⟩,⟨(some (23,true)),(some 24),.mv (.sl 0)⟩,⟨(some (23,true)),(some 25),.mv (.sl 3)⟩,⟨(some (23,true)),(some 26),.bin .sub (.sl 25) (.k (.int .i64 1))⟩,⟨(some (23,true)),(some 27),.iad 2 (.sl 24) (.sl 26)⟩,⟨(some (23,true)),(some 28),.fad 0 (.sl 27)⟩,⟨(some (23,true)),(some 29),.load 1 false (.sl 28)⟩,⟨(some (23,true)),(some 30),.mv (.sl 0)⟩,⟨(some (23,true)),(some 31),.mv (.sl 3)⟩,⟨(some (23,true)),(some 32),.iad 2 (.sl 30) (.sl 31)⟩,⟨(some (23,true)),(some 33),.fad 0 (.sl 32)⟩,⟨(some (23,true)),(some 34),.load 1 false (.sl 33)⟩,⟨(some (23,true)),(some 35),.bin .geq (.sl 29) (.sl 34)⟩,⟨(some (20,false)),(some 36),.pick (.sl 23) (.sl 35) (.k (.bool false))⟩,qx 37 20 36,qm 38 37,⟨(some (38,false)),(some 39),.mv (.sl 0)⟩,⟨(some (38,false)),(some 40),.mv (.sl 3)⟩,⟨(some (38,false)),(some 41),.iad 2 (.sl 39) (.sl 40)⟩,⟨(some (38,false)),(some 42),.fad 1 (.sl 41)⟩,⟨(some (38,false)),(some 43),.load 1 false (.sl 42)⟩,⟨(some (38,false)),(some 44),.call 167 [.sl 43] []⟩,⟨(some (38,false)),(some 45),.un .not (.sl 44)⟩,qx 46 38 45]
 (qd 46 (qr [qc 2 (.bool false)]
 .ret) .skip)))
 (.reg [qm 11 3,qk 12 .add 11 1,qm 3 12] []))))))
 (qr [qc 2 (.bool true)]
 .ret)))),[.tmp 2],false⟩
def F121:bp:=⟨42,0,(
 qr [qc 2 (.bool false)]
 (qg [qm 4 0,qo 5 (.slen (.sl 4)),qk 6 .lss 5 1,qm 7 6,⟨(some (7,false)),(some 8),.mv (.sl 0)⟩,⟨(some (7,false)),(some 9),.slen (.sl 8)⟩,⟨(some (7,false)),(some 10),.bin .gtr (.sl 9) (.k (.int .i64 20))⟩,qx 11 7 10,qm 12 11,⟨(some (12,false)),(some 13),.mv (.sl 0)⟩,⟨(some (12,false)),(some 14),.sidx (.sl 13) (.k (.int .i64 0))⟩,⟨(some (12,false)),(some 15),.call 168 [.sl 14] []⟩,⟨(some (12,false)),(some 16),.un .not (.sl 15)⟩,qx 17 12 16] 17 (qc 2 (.bool false))
 (.seq (qr [qi 3 1]
 (.block 0 (.loop (.seq (qr [qm 18 3,qm 19 0,qo 20 (.slen (.sl 19)),qb 21 .lss 18 20]
 (qd 21 .skip (.exit 0)))
 (.seq (.block 1 (qr [qm 24 0,qm 25 3,qo 26 (.sidx (.sl 24) (.sl 25)),qt 27 168 26,qo 28 (.un .not (.sl 27)),qm 29 28,⟨(some (29,true)),(some 30),.mv (.sl 0)⟩,⟨(some (29,true)),(some 31),.mv (.sl 3)⟩,⟨(some (29,true)),(some 32),.sidx (.sl 30) (.sl 31)⟩,⟨(some (29,true)),(some 33),.call 169 [.sl 32] []⟩,⟨(some (29,true)),(some 34),.un .not (.sl 33)⟩,qy 35 29 34,qm 36 35,⟨(some (36,true)),(some 37),.mv (.sl 0)⟩,⟨(some (36,true)),(some 38),.mv (.sl 3)⟩,⟨(some (36,true)),(some 39),.sidx (.sl 37) (.sl 38)⟩,⟨(some (36,true)),(some 40),.bin .neq (.sl 39) (.k (.int .u8 95))⟩,qy 41 36 40]
 (qd 41 (qr [qc 2 (.bool false)]
 .ret) .skip)))
 (.reg [qm 22 3,qk 23 .add 22 1,qm 3 23] []))))))
 (qr [qc 2 (.bool true)]
 .ret)))),[.tmp 2],false⟩
def F166:bp:=⟨20,0,(
 qr [qc 2 (.bool false)]
 (.seq (qr [qi 3 1]
 (.block 0 (.loop (.seq (qr [qm 4 3,qm 5 0,qn 6 5,qb 7 .lss 4 6]
 (qd 7 .skip (.exit 0)))
 (.seq (.block 1 (qr [qm 10 0,qm 11 3,qk 12 .sub 11 1,qa 13 1 10 12,ql 14 1 false 13,qm 15 0,qm 16 3,qa 17 1 15 16,ql 18 1 false 17,qb 19 .geq 14 18]
 (qd 19 (qr [qc 2 (.bool false)]
 .ret) .skip)))
 (.reg [qm 8 3,qk 9 .add 8 1,qm 3 9] []))))))
 (qr [qc 2 (.bool true)]
 .ret))),[.tmp 2],false⟩
def F167:bp:=⟨13,0,(
 qr [qc 2 (.bool false)]
 (qr [qm 4 0,qt 5 186 4,qo 3 (.alloc [(.int .i64 0),(.int .i64 0),(.int .i64 0),(.str ⟨#[]⟩),qN,qN]),qs 6 3 5]
 (qr [qf 6 0 3,ql 7 1 false 6,qk 8 .neq 7 0,qm 9 8,⟨(some (9,true)),(some 10),.load 6 true (.sl 3)⟩,⟨(some (9,true)),(some 11),.call 191 [.sl 10] []⟩,qy 12 9 11,qm 2 12]
 .ret))),[.tmp 2],false⟩
def F168:bp:=⟨17,0,(
 qr [qc 2 (.bool false)]
 (qr [qm 3 0,qo 4 (.bin .geq (.sl 3) (.k (.int .u8 97))),qm 5 4,⟨(some (5,true)),(some 6),.mv (.sl 0)⟩,⟨(some (5,true)),(some 7),.bin .leq (.sl 6) (.k (.int .u8 122))⟩,qy 8 5 7,qm 9 8,⟨(some (9,false)),(some 10),.mv (.sl 0)⟩,⟨(some (9,false)),(some 11),.bin .geq (.sl 10) (.k (.int .u8 65))⟩,⟨(some (9,false)),(some 12),.mv (.sl 11)⟩,⟨(some (12,true)),(some 13),.mv (.sl 0)⟩,⟨(some (12,true)),(some 14),.bin .leq (.sl 13) (.k (.int .u8 90))⟩,⟨(some (9,false)),(some 15),.pick (.sl 12) (.sl 14) (.k (.bool false))⟩,qx 16 9 15,qm 2 16]
 .ret)),[.tmp 2],false⟩
def F169:bp:=⟨9,0,(
 qr [qc 2 (.bool false)]
 (qr [qm 3 0,qo 4 (.bin .geq (.sl 3) (.k (.int .u8 48))),qm 5 4,⟨(some (5,true)),(some 6),.mv (.sl 0)⟩,⟨(some (5,true)),(some 7),.bin .leq (.sl 6) (.k (.int .u8 57))⟩,qy 8 5 7,qm 2 8]
 .ret)),[.tmp 2],false⟩
def F186:bp:=⟨29,0,(
 qr [qo 2 (.alloc [(.int .i64 0),(.int .i64 0),(.int .i64 0),(.str ⟨#[]⟩),qN,qN])]
 (.seq (qr [qm 5 0,qo 6 (.slen (.sl 5)),qk 7 .gtr 6 2000]
 (qd 7 (qr [qo 8 (.build [(.int .i64 0),(.int .i64 0),(.int .i64 0),(.str ⟨#[]⟩),qN,qN] [(0,1,(.k (.int .i64 (-1))))]),qs 6 2 8]
 .ret) .skip))
 (qr [qm 9 0,qo 10 (.build [(.str ⟨#[]⟩),(.int .i64 0),(.bool false)] [(0,1,(.sl 9))]),qo 11 (.box 3 (.sl 10)),qm 3 11]
 (qr [qm 12 3,qo 13 (.call 200 [(.sl 12),(.k (.int .i64 0))] []),qo 4 (.alloc [(.int .i64 0),(.int .i64 0),(.int .i64 0),(.str ⟨#[]⟩),qN,qN]),qs 6 4 13]
 (.seq (qr [qm 14 3,qo 15 (.nck (.sl 14)),qf 16 2 15,ql 17 1 false 16,qm 18 17,⟨(some (18,false)),(some 19),.mv (.sl 3)⟩,⟨(some (18,false)),(some 20),.nck (.sl 19)⟩,⟨(some (18,false)),(some 21),.fad 1 (.sl 20)⟩,⟨(some (18,false)),(some 22),.load 1 false (.sl 21)⟩,⟨(some (18,false)),(some 23),.mv (.sl 0)⟩,⟨(some (18,false)),(some 24),.slen (.sl 23)⟩,⟨(some (18,false)),(some 25),.bin .neq (.sl 22) (.sl 24)⟩,qx 26 18 25]
 (qd 26 (qr [qo 27 (.build [(.int .i64 0),(.int .i64 0),(.int .i64 0),(.str ⟨#[]⟩),qN,qN] [(0,1,(.k (.int .i64 (-1))))]),qs 6 2 27]
 .ret) .skip))
 (qr [ql 28 6 true 4,qs 6 2 28]
 .ret)))))),[.cell 2 6 true],false⟩
def F191:bp:=⟨35,0,(
 qr [qo 1 (.box 6 (.sl 0)),qc 2 (.bool false)]
 (qg [qf 4 0 1,ql 5 1 false 4,qk 6 .lss 5 0,qm 7 6,⟨(some (7,false)),(some 8),.fad 0 (.sl 1)⟩,⟨(some (7,false)),(some 9),.load 1 false (.sl 8)⟩,⟨(some (7,false)),(some 10),.bin .geq (.sl 9) (.k (.int .i64 8))⟩,qx 11 7 10] 11 (qc 2 (.bool false))
 (.seq (qr [qi 3 0]
 (.block 0 (.loop (.seq (qr [qm 12 3,qf 13 4 1,ql 14 1 false 13,qn 15 14,qb 16 .lss 12 15]
 (qd 16 .skip (.exit 0)))
 (.seq (.block 1 (qr [qf 19 4 1,ql 20 1 false 19,qm 21 3,qa 22 6 20 21,qf 23 0 22,ql 24 1 false 23,qk 25 .neq 24 0,qm 26 25,⟨(some (26,true)),(some 27),.fad 4 (.sl 1)⟩,⟨(some (26,true)),(some 28),.load 1 false (.sl 27)⟩,⟨(some (26,true)),(some 29),.mv (.sl 3)⟩,⟨(some (26,true)),(some 30),.iad 6 (.sl 28) (.sl 29)⟩,⟨(some (26,true)),(some 31),.load 6 true (.sl 30)⟩,⟨(some (26,true)),(some 32),.call 191 [.sl 31] []⟩,⟨(some (26,true)),(some 33),.un .not (.sl 32)⟩,qy 34 26 33]
 (qd 34 (qr [qc 2 (.bool false)]
 .ret) .skip)))
 (.reg [qm 17 3,qk 18 .add 17 1,qm 3 18] []))))))
 (qr [qc 2 (.bool true)]
 .ret)))),[.tmp 2],false⟩
def F200:bp:=⟨135,1,(
 qr [qo 4 (.alloc [(.int .i64 0),(.int .i64 0),(.int .i64 0),(.str ⟨#[]⟩),qN,qN])]
 (.seq (qr [qm 7 0,qo 8 (.nck (.sl 7)),qf 9 2 8,ql 10 1 false 9,qm 11 10,⟨(some (11,false)),(some 12),.mv (.sl 0)⟩,⟨(some (11,false)),(some 13),.nck (.sl 12)⟩,⟨(some (11,false)),(some 14),.fad 1 (.sl 13)⟩,⟨(some (11,false)),(some 15),.load 1 false (.sl 14)⟩,⟨(some (11,false)),(some 16),.mv (.sl 0)⟩,⟨(some (11,false)),(some 17),.nck (.sl 16)⟩,⟨(some (11,false)),(some 18),.fad 0 (.sl 17)⟩,⟨(some (11,false)),(some 19),.load 1 false (.sl 18)⟩,⟨(some (11,false)),(some 20),.slen (.sl 19)⟩,⟨(some (11,false)),(some 21),.bin .geq (.sl 15) (.sl 20)⟩,qx 22 11 21]
 (qd 22 (qr [qm 23 0,qt 24 209 23,qs 6 4 24]
 .ret) .skip))
 (.seq (.block 0 (qr [qm 26 0,qo 27 (.call 210 [(.sl 26),(.k (.str ⟨#[110,117,108,108]⟩))] []),qm 25 27]
 (qd 25 (qr [qo 28 (.build [(.int .i64 0),(.int .i64 0),(.int .i64 0),(.str ⟨#[]⟩),qN,qN] []),qs 6 4 28]
 .ret) (qr [qm 30 0,qo 31 (.call 210 [(.sl 30),(.k (.str ⟨#[116,114,117,101]⟩))] []),qm 29 31]
 (qd 29 (qr [qo 32 (.build [(.int .i64 0),(.int .i64 0),(.int .i64 0),(.str ⟨#[]⟩),qN,qN] [(0,1,(.k (.int .i64 1))),(1,1,(.k (.int .i64 1)))]),qs 6 4 32]
 .ret) (qr [qm 34 0,qo 35 (.call 210 [(.sl 34),(.k (.str ⟨#[102,97,108,115,101]⟩))] []),qm 33 35]
 (qd 33 (qr [qo 36 (.build [(.int .i64 0),(.int .i64 0),(.int .i64 0),(.str ⟨#[]⟩),qN,qN] [(0,1,(.k (.int .i64 1)))]),qs 6 4 36]
 .ret) (qr [qm 38 0,qo 39 (.call 210 [(.sl 38),(.k (.str ⟨#[34]⟩))] []),qm 37 39]
 (qd 37 (qr [qm 40 0,qt 41 211 40,qo 42 (.build [(.int .i64 0),(.int .i64 0),(.int .i64 0),(.str ⟨#[]⟩),qN,qN] [(0,1,(.k (.int .i64 3))),(3,1,(.sl 41))]),qs 6 4 42]
 .ret) (qr [qm 44 0,qo 45 (.call 210 [(.sl 44),(.k (.str ⟨#[64]⟩))] []),qm 43 45]
 (qd 43 (qr [qm 46 0,qt 47 212 46,qs 6 4 47]
 .ret) (qr [qm 49 0,qo 50 (.call 210 [(.sl 49),(.k (.str ⟨#[40]⟩))] []),qm 48 50]
 (qd 48 (qr [qm 51 0,qt 52 213 51,qm 5 52]
 (qr [qm 53 0,qm 54 0,qo 55 (.nck (.sl 54)),qf 56 2 55,ql 57 1 false 56,qm 58 57,⟨(some (58,false)),(some 59),.mv (.sl 0)⟩,⟨(some (58,false)),(some 60),.call 210 [(.sl 59),(.k (.str ⟨#[32]⟩))] []⟩,⟨(some (58,false)),(some 61),.un .not (.sl 60)⟩,qx 62 58 61,qo 63 (.nck (.sl 53)),qf 64 2 63,qs 1 64 62]
 (qr [qm 65 0,qt 66 213 65,qm 6 66]
 (.seq (qr [qm 67 0,qo 68 (.nck (.sl 67)),qf 69 2 68,ql 70 1 false 69,qm 71 70,⟨(some (71,false)),(some 72),.mv (.sl 0)⟩,⟨(some (71,false)),(some 73),.call 210 [(.sl 72),(.k (.str ⟨#[41]⟩))] []⟩,⟨(some (71,false)),(some 74),.un .not (.sl 73)⟩,qx 75 71 74,qm 76 75,⟨(some (76,false)),(some 77),.mv (.sl 5)⟩,⟨(some (76,false)),(some 78),.bin .lss (.sl 77) (.k (.int .i64 (-1000000)))⟩,qx 79 76 78,qm 80 79,⟨(some (80,false)),(some 81),.mv (.sl 5)⟩,⟨(some (80,false)),(some 82),.bin .gtr (.sl 81) (.k (.int .i64 1000000))⟩,qx 83 80 82,qm 84 83,⟨(some (84,false)),(some 85),.mv (.sl 6)⟩,⟨(some (84,false)),(some 86),.bin .lss (.sl 85) (.k (.int .i64 (-1000000)))⟩,qx 87 84 86,qm 88 87,⟨(some (88,false)),(some 89),.mv (.sl 6)⟩,⟨(some (88,false)),(some 90),.bin .gtr (.sl 89) (.k (.int .i64 1000000))⟩,qx 91 88 90]
 (qd 91 (qr [qm 92 0,qt 93 209 92,qs 6 4 93]
 .ret) .skip))
 (qr [qm 94 5,qm 95 6,qo 96 (.build [(.int .i64 0),(.int .i64 0),(.int .i64 0),(.str ⟨#[]⟩),qN,qN] [(0,1,(.k (.int .i64 5))),(1,1,(.sl 94)),(2,1,(.sl 95))]),qs 6 4 96]
 .ret))))) (qr [qm 98 0,qo 99 (.call 210 [(.sl 98),(.k (.str ⟨#[110]⟩))] []),qm 97 99]
 (qd 97 (qr [qm 100 0,qo 101 (.call 214 [(.sl 100),(.k (.int .i64 8))] []),qs 6 4 101]
 .ret) (qr [qm 103 0,qo 104 (.call 210 [(.sl 103),(.k (.str ⟨#[101]⟩))] []),qm 102 104]
 (qd 102 (qr [qm 105 0,qo 106 (.call 214 [(.sl 105),(.k (.int .i64 9))] []),qs 6 4 106]
 .ret) (qr [qm 108 0,qo 109 (.call 210 [(.sl 108),(.k (.str ⟨#[60]⟩))] []),qm 107 109]
 (qd 107 (qr [qm 110 0,qt 111 215 110,qs 6 4 111]
 .ret) (qr [qm 113 1,qk 114 .lss 113 5,qm 115 114,⟨(some (115,true)),(some 116),.mv (.sl 0)⟩,⟨(some (115,true)),(some 117),.call 210 [(.sl 116),(.k (.str ⟨#[91]⟩))] []⟩,qy 118 115 117,qm 112 118]
 (qd 112 (qr [qm 119 0,qm 120 1,qu 121 216 119 120,qs 6 4 121]
 .ret) (qr [qm 123 1,qk 124 .lss 123 5,qm 125 124,⟨(some (125,true)),(some 126),.mv (.sl 0)⟩,⟨(some (125,true)),(some 127),.call 210 [(.sl 126),(.k (.str ⟨#[123]⟩))] []⟩,qy 128 125 127,qm 122 128]
 (qd 122 (qr [qm 129 0,qm 130 1,qu 131 217 129 130,qs 6 4 131]
 .ret) .skip)))))))))))))))))))))))
 (qr [qm 132 0,qt 133 213 132,qo 134 (.build [(.int .i64 0),(.int .i64 0),(.int .i64 0),(.str ⟨#[]⟩),qN,qN] [(0,1,(.k (.int .i64 2))),(1,1,(.sl 133))]),qs 6 4 134]
 .ret)))),[.cell 4 6 true],false⟩
def F209:bp:=⟨7,1,(
 qr [qo 2 (.alloc [(.int .i64 0),(.int .i64 0),(.int .i64 0),(.str ⟨#[]⟩),qN,qN])]
 (qr [qm 3 0,qo 4 (.nck (.sl 3)),qf 5 2 4,qe (.store 1 (.sl 5) (.k (.bool true)))]
 (qr [qo 6 (.build [(.int .i64 0),(.int .i64 0),(.int .i64 0),(.str ⟨#[]⟩),qN,qN] [(0,1,(.k (.int .i64 (-1))))]),qs 6 2 6]
 .ret))),[.cell 2 6 true],false⟩
def F210:bp:=⟨33,1,(
 qr [qc 4 (.bool false)]
 (.seq (qr [qm 5 0,qo 6 (.nck (.sl 5)),qf 7 2 6,ql 8 1 false 7,qo 9 (.un .not (.sl 8)),qm 10 9,⟨(some (10,true)),(some 11),.mv (.sl 0)⟩,⟨(some (10,true)),(some 12),.nck (.sl 11)⟩,⟨(some (10,true)),(some 13),.fad 0 (.sl 12)⟩,⟨(some (10,true)),(some 14),.load 1 false (.sl 13)⟩,⟨(some (10,true)),(some 15),.mv (.sl 0)⟩,⟨(some (10,true)),(some 16),.nck (.sl 15)⟩,⟨(some (10,true)),(some 17),.fad 1 (.sl 16)⟩,⟨(some (10,true)),(some 18),.load 1 false (.sl 17)⟩,⟨(some (10,true)),(some 19),.ssl (.sl 14) (some (.sl 18)) none⟩,⟨(some (10,true)),(some 20),.mv (.sl 1)⟩,⟨(some (10,true)),(some 21),.call 231 [(.sl 19),(.sl 20)] []⟩,qy 22 10 21]
 (qd 22 (qr [qm 23 0,qm 24 0,qo 25 (.nck (.sl 24)),qf 26 1 25,ql 27 1 false 26,qm 28 1,qo 29 (.slen (.sl 28)),qb 30 .add 27 29,qo 31 (.nck (.sl 23)),qf 32 1 31,qs 1 32 30]
 (qr [qc 4 (.bool true)]
 .ret)) .skip))
 (qr [qc 4 (.bool false)]
 .ret))),[.tmp 4],false⟩
def F211:bp:=⟨122,1,(
 qr [qc 2 (.str ⟨#[]⟩)]
 (qr [qo 5 (.bsl 5 1 [(.int .u8 0)] 0 []),qm 3 5]
 (.seq (.block 0 (.loop (.seq (qr [qm 6 0,qo 7 (.nck (.sl 6)),qf 8 1 7,ql 9 1 false 8,qm 10 0,qo 11 (.nck (.sl 10)),qf 12 0 11,ql 13 1 false 12,qo 14 (.slen (.sl 13)),qb 15 .lss 9 14]
 (qd 15 .skip (.exit 0)))
 (.block 1 (qr [qm 16 0,qo 17 (.nck (.sl 16)),qf 18 0 17,ql 19 1 false 18,qm 20 0,qo 21 (.nck (.sl 20)),qf 22 1 21,ql 23 1 false 22,qo 24 (.sidx (.sl 19) (.sl 23)),qm 4 24]
 (qr [qm 25 0,qm 26 0,qo 27 (.nck (.sl 26)),qf 28 1 27,ql 29 1 false 28,qk 30 .add 29 1,qo 31 (.nck (.sl 25)),qf 32 1 31,qs 1 32 30]
 (.seq (.block 2 (qr [qm 34 4,qo 35 (.bin .eql (.sl 34) (.k (.int .u8 34))),qm 33 35]
 (qd 33 (qr [qm 36 3,qo 37 (.b2s (.sl 36)),qm 2 37]
 .ret) (qr [qm 39 4,qo 40 (.bin .lss (.sl 39) (.k (.int .u8 32))),qm 38 40]
 (qd 38 (qr [qm 41 0,qo 42 (.nck (.sl 41)),qf 43 2 42,qe (.store 1 (.sl 43) (.k (.bool true)))]
 (qr [qc 2 (.str ⟨#[]⟩)]
 .ret)) (qr [qm 45 4,qo 46 (.bin .eql (.sl 45) (.k (.int .u8 92))),qm 44 46]
 (qd 44 (.seq (qr [qm 47 0,qo 48 (.nck (.sl 47)),qf 49 1 48,ql 50 1 false 49,qm 51 0,qo 52 (.nck (.sl 51)),qf 53 0 52,ql 54 1 false 53,qo 55 (.slen (.sl 54)),qb 56 .geq 50 55,qm 57 56,⟨(some (57,false)),(some 58),.mv (.sl 0)⟩,⟨(some (57,false)),(some 59),.nck (.sl 58)⟩,⟨(some (57,false)),(some 60),.fad 0 (.sl 59)⟩,⟨(some (57,false)),(some 61),.load 1 false (.sl 60)⟩,⟨(some (57,false)),(some 62),.mv (.sl 0)⟩,⟨(some (57,false)),(some 63),.nck (.sl 62)⟩,⟨(some (57,false)),(some 64),.fad 1 (.sl 63)⟩,⟨(some (57,false)),(some 65),.load 1 false (.sl 64)⟩,⟨(some (57,false)),(some 66),.sidx (.sl 61) (.sl 65)⟩,⟨(some (57,false)),(some 67),.bin .neq (.sl 66) (.k (.int .u8 34))⟩,⟨(some (57,false)),(some 68),.mv (.sl 67)⟩,⟨(some (68,true)),(some 69),.mv (.sl 0)⟩,⟨(some (68,true)),(some 70),.nck (.sl 69)⟩,⟨(some (68,true)),(some 71),.fad 0 (.sl 70)⟩,⟨(some (68,true)),(some 72),.load 1 false (.sl 71)⟩,⟨(some (68,true)),(some 73),.mv (.sl 0)⟩,⟨(some (68,true)),(some 74),.nck (.sl 73)⟩,⟨(some (68,true)),(some 75),.fad 1 (.sl 74)⟩,⟨(some (68,true)),(some 76),.load 1 false (.sl 75)⟩,⟨(some (68,true)),(some 77),.sidx (.sl 72) (.sl 76)⟩,⟨(some (68,true)),(some 78),.bin .neq (.sl 77) (.k (.int .u8 92))⟩,⟨(some (57,false)),(some 79),.pick (.sl 68) (.sl 78) (.k (.bool false))⟩,⟨(some (57,false)),(some 80),.mv (.sl 79)⟩,⟨(some (80,true)),(some 81),.mv (.sl 0)⟩,⟨(some (80,true)),(some 82),.nck (.sl 81)⟩,⟨(some (80,true)),(some 83),.fad 0 (.sl 82)⟩,⟨(some (80,true)),(some 84),.load 1 false (.sl 83)⟩,⟨(some (80,true)),(some 85),.mv (.sl 0)⟩,⟨(some (80,true)),(some 86),.nck (.sl 85)⟩,⟨(some (80,true)),(some 87),.fad 1 (.sl 86)⟩,⟨(some (80,true)),(some 88),.load 1 false (.sl 87)⟩,⟨(some (80,true)),(some 89),.sidx (.sl 84) (.sl 88)⟩,⟨(some (80,true)),(some 90),.bin .neq (.sl 89) (.k (.int .u8 110))⟩,⟨(some (57,false)),(some 91),.pick (.sl 80) (.sl 90) (.k (.bool false))⟩,qx 92 57 91]
 (qd 92 (qr [qm 93 0,qo 94 (.nck (.sl 93)),qf 95 2 94,qe (.store 1 (.sl 95) (.k (.bool true)))]
 (qr [qc 2 (.str ⟨#[]⟩)]
 .ret)) .skip))
 (qr [qm 96 0,qo 97 (.nck (.sl 96)),qf 98 0 97,ql 99 1 false 98,qm 100 0,qo 101 (.nck (.sl 100)),qf 102 1 101,ql 103 1 false 102,qo 104 (.sidx (.sl 99) (.sl 103)),qm 4 104]
 (.seq (qr [qm 105 4,qo 106 (.bin .eql (.sl 105) (.k (.int .u8 110)))]
 (qd 106 (.reg [qc 4 (.int .u8 10)] []) .skip))
 (.reg [qm 107 0,qm 108 0,qo 109 (.nck (.sl 108)),qf 110 1 109,ql 111 1 false 110,qk 112 .add 111 1,qo 113 (.nck (.sl 107)),qf 114 1 113,qs 1 114 112] [])))) .skip)))))))
 (.reg [qm 115 3,qm 116 4,qo 117 (.bsl 5 1 [(.int .u8 0)] 1 [(0,1,(.sl 116))]),qo 118 (.app 5 1 1 (.sl 115) (.sl 117)),qm 3 118] []))))))))
 (qr [qm 119 0,qo 120 (.nck (.sl 119)),qf 121 2 120,qe (.store 1 (.sl 121) (.k (.bool true)))]
 (qr [qc 2 (.str ⟨#[]⟩)]
 .ret))))),[.tmp 2],false⟩
def F212:bp:=⟨84,1,(
 qr [qo 2 (.alloc [(.int .i64 0),(.int .i64 0),(.int .i64 0),(.str ⟨#[]⟩),qN,qN])]
 (qr [qm 8 0,qo 9 (.call 232 [(.sl 8),(.k (.int .i64 4))] []),qm 3 9]
 (qr [qm 10 0,qm 11 0,qo 12 (.nck (.sl 11)),qf 13 2 12,ql 14 1 false 13,qm 15 14,⟨(some (15,false)),(some 16),.mv (.sl 0)⟩,⟨(some (15,false)),(some 17),.call 210 [(.sl 16),(.k (.str ⟨#[45]⟩))] []⟩,⟨(some (15,false)),(some 18),.un .not (.sl 17)⟩,qx 19 15 18,qo 20 (.nck (.sl 10)),qf 21 2 20,qs 1 21 19]
 (qr [qm 22 0,qo 23 (.call 232 [(.sl 22),(.k (.int .i64 2))] []),qm 4 23]
 (qr [qm 24 0,qm 25 0,qo 26 (.nck (.sl 25)),qf 27 2 26,ql 28 1 false 27,qm 29 28,⟨(some (29,false)),(some 30),.mv (.sl 0)⟩,⟨(some (29,false)),(some 31),.call 210 [(.sl 30),(.k (.str ⟨#[45]⟩))] []⟩,⟨(some (29,false)),(some 32),.un .not (.sl 31)⟩,qx 33 29 32,qo 34 (.nck (.sl 24)),qf 35 2 34,qs 1 35 33]
 (qr [qm 36 0,qo 37 (.call 232 [(.sl 36),(.k (.int .i64 2))] []),qm 5 37]
 (.seq (qr [qm 38 0,qo 39 (.nck (.sl 38)),qf 40 2 39,ql 41 1 false 40,qm 42 41,⟨(some (42,false)),(some 43),.mv (.sl 3)⟩,⟨(some (42,false)),(some 44),.bin .lss (.sl 43) (.k (.int .i64 1))⟩,qx 45 42 44,qm 46 45,⟨(some (46,false)),(some 47),.mv (.sl 4)⟩,⟨(some (46,false)),(some 48),.bin .lss (.sl 47) (.k (.int .i64 1))⟩,qx 49 46 48,qm 50 49,⟨(some (50,false)),(some 51),.mv (.sl 4)⟩,⟨(some (50,false)),(some 52),.bin .gtr (.sl 51) (.k (.int .i64 12))⟩,qx 53 50 52,qm 54 53,⟨(some (54,false)),(some 55),.mv (.sl 5)⟩,⟨(some (54,false)),(some 56),.bin .lss (.sl 55) (.k (.int .i64 1))⟩,qx 57 54 56,qm 58 57,⟨(some (58,false)),(some 59),.mv (.sl 5)⟩,⟨(some (58,false)),(some 60),.mv (.sl 3)⟩,⟨(some (58,false)),(some 61),.mv (.sl 4)⟩,⟨(some (58,false)),(some 62),.call 233 [(.sl 60),(.sl 61)] []⟩,⟨(some (58,false)),(some 63),.bin .gtr (.sl 59) (.sl 62)⟩,qx 64 58 63]
 (qd 64 (qr [qm 65 0,qt 66 209 65,qs 6 2 66]
 .ret) .skip))
 (qr [qm 67 3,qt 68 234 67,qm 69 5,qb 70 .add 68 69,qk 71 .sub 70 1,qm 6 71]
 (.seq (qr [qi 7 1]
 (.block 0 (.loop (.seq (qr [qm 72 7,qm 73 4,qb 74 .lss 72 73]
 (qd 74 .skip (.exit 0)))
 (.seq (.block 1 (.reg [qm 77 6,qm 78 3,qm 79 7,qu 80 233 78 79,qb 81 .add 77 80,qm 6 81] []))
 (.reg [qm 75 7,qk 76 .add 75 1,qm 7 76] []))))))
 (qr [qm 82 6,qo 83 (.build [(.int .i64 0),(.int .i64 0),(.int .i64 0),(.str ⟨#[]⟩),qN,qN] [(0,1,(.k (.int .i64 4))),(1,1,(.sl 82))]),qs 6 2 83]
 .ret)))))))))),[.cell 2 6 true],false⟩
def F213:bp:=⟨134,1,(
 qr [qi 2 0]
 (qr [qm 5 0,qo 6 (.nck (.sl 5)),qf 7 1 6,ql 8 1 false 7,qm 3 8]
 (.seq (qr [qm 9 0,qo 10 (.nck (.sl 9)),qf 11 1 10,ql 12 1 false 11,qm 13 0,qo 14 (.nck (.sl 13)),qf 15 0 14,ql 16 1 false 15,qo 17 (.slen (.sl 16)),qb 18 .lss 12 17,qm 19 18,⟨(some (19,true)),(some 20),.mv (.sl 0)⟩,⟨(some (19,true)),(some 21),.nck (.sl 20)⟩,⟨(some (19,true)),(some 22),.fad 0 (.sl 21)⟩,⟨(some (19,true)),(some 23),.load 1 false (.sl 22)⟩,⟨(some (19,true)),(some 24),.mv (.sl 0)⟩,⟨(some (19,true)),(some 25),.nck (.sl 24)⟩,⟨(some (19,true)),(some 26),.fad 1 (.sl 25)⟩,⟨(some (19,true)),(some 27),.load 1 false (.sl 26)⟩,⟨(some (19,true)),(some 28),.sidx (.sl 23) (.sl 27)⟩,⟨(some (19,true)),(some 29),.bin .eql (.sl 28) (.k (.int .u8 45))⟩,qy 30 19 29]
 (qd 30 (.reg [qm 31 0,qm 32 0,qo 33 (.nck (.sl 32)),qf 34 1 33,ql 35 1 false 34,qk 36 .add 35 1,qo 37 (.nck (.sl 31)),qf 38 1 37,qs 1 38 36] []) .skip))
 (qr [qi 4 0]
 (.seq (.block 0 (.loop (.seq (qr [qm 39 0,qo 40 (.nck (.sl 39)),qf 41 1 40,ql 42 1 false 41,qm 43 0,qo 44 (.nck (.sl 43)),qf 45 0 44,ql 46 1 false 45,qo 47 (.slen (.sl 46)),qb 48 .lss 42 47,qm 49 48,⟨(some (49,true)),(some 50),.mv (.sl 0)⟩,⟨(some (49,true)),(some 51),.nck (.sl 50)⟩,⟨(some (49,true)),(some 52),.fad 0 (.sl 51)⟩,⟨(some (49,true)),(some 53),.load 1 false (.sl 52)⟩,⟨(some (49,true)),(some 54),.mv (.sl 0)⟩,⟨(some (49,true)),(some 55),.nck (.sl 54)⟩,⟨(some (49,true)),(some 56),.fad 1 (.sl 55)⟩,⟨(some (49,true)),(some 57),.load 1 false (.sl 56)⟩,⟨(some (49,true)),(some 58),.sidx (.sl 53) (.sl 57)⟩,⟨(some (49,true)),(some 59),.call 169 [.sl 58] []⟩,qy 60 49 59]
 (qd 60 .skip (.exit 0)))
 (.block 1 (qr [qm 61 4,qk 62 .mul 61 10,qm 63 0,qo 64 (.nck (.sl 63)),qf 65 0 64,ql 66 1 false 65,qm 67 0,qo 68 (.nck (.sl 67)),qf 69 1 68,ql 70 1 false 69,qo 71 (.sidx (.sl 66) (.sl 70)),qo 72 (.bin .sub (.sl 71) (.k (.int .u8 48))),qo 73 (.toInt .i64 (.sl 72)),qb 74 .add 62 73,qm 4 74]
 (.reg [qm 75 0,qm 76 0,qo 77 (.nck (.sl 76)),qf 78 1 77,ql 79 1 false 78,qk 80 .add 79 1,qo 81 (.nck (.sl 75)),qf 82 1 81,qs 1 82 80] []))))))
 (.seq (qr [qm 83 3,qm 84 0,qo 85 (.nck (.sl 84)),qf 86 1 85,ql 87 1 false 86,qb 88 .lss 83 87,qm 89 88,⟨(some (89,true)),(some 90),.mv (.sl 0)⟩,⟨(some (89,true)),(some 91),.nck (.sl 90)⟩,⟨(some (89,true)),(some 92),.fad 0 (.sl 91)⟩,⟨(some (89,true)),(some 93),.load 1 false (.sl 92)⟩,⟨(some (89,true)),(some 94),.mv (.sl 3)⟩,⟨(some (89,true)),(some 95),.sidx (.sl 93) (.sl 94)⟩,⟨(some (89,true)),(some 96),.bin .eql (.sl 95) (.k (.int .u8 45))⟩,qy 97 89 96]
 (qd 97 (.reg [qm 98 4,qo 99 (.un .neg (.sl 98)),qm 4 99] []) .skip))
 (.seq (.seq (.reg [qm 100 3,qm 101 0,qo 102 (.nck (.sl 101)),qf 103 1 102,ql 104 1 false 103,qb 105 .eql 100 104,qm 106 105,⟨(some (106,false)),(some 107),.mv (.sl 0)⟩,⟨(some (106,false)),(some 108),.nck (.sl 107)⟩,⟨(some (106,false)),(some 109),.fad 1 (.sl 108)⟩,⟨(some (106,false)),(some 110),.load 1 false (.sl 109)⟩,⟨(some (106,false)),(some 111),.mv (.sl 3)⟩,⟨(some (106,false)),(some 112),.bin .sub (.sl 110) (.sl 111)⟩,⟨(some (106,false)),(some 113),.bin .gtr (.sl 112) (.k (.int .i64 20))⟩,qx 114 106 113,qm 115 114,⟨(some (115,false)),(some 116),.mv (.sl 4)⟩,⟨(some (115,false)),(some 117),.call 98 [.sl 116] []⟩,⟨(some (115,false)),(some 118),.mv (.sl 0)⟩,⟨(some (115,false)),(some 119),.nck (.sl 118)⟩,⟨(some (115,false)),(some 120),.fad 0 (.sl 119)⟩,⟨(some (115,false)),(some 121),.load 1 false (.sl 120)⟩,⟨(some (115,false)),(some 122),.mv (.sl 3)⟩,⟨(some (115,false)),(some 123),.mv (.sl 0)⟩,⟨(some (115,false)),(some 124),.nck (.sl 123)⟩,⟨(some (115,false)),(some 125),.fad 1 (.sl 124)⟩,⟨(some (115,false)),(some 126),.load 1 false (.sl 125)⟩,⟨(some (115,false)),(some 127),.ssl (.sl 121) (some (.sl 122)) (some (.sl 126))⟩,⟨(some (115,false)),(some 128),.bin .neq (.sl 117) (.sl 127)⟩,qx 129 115 128] [(17,21),(17,26)])
 (qd 129 (.reg [qm 130 0,qo 131 (.nck (.sl 130)),qf 132 2 131,qe (.store 1 (.sl 132) (.k (.bool true)))] []) .skip))
 (qr [qm 133 4,qm 2 133]
 .ret)))))))),[.tmp 2],false⟩
def F214:bp:=⟨20,1,(
 qr [qo 4 (.alloc [(.int .i64 0),(.int .i64 0),(.int .i64 0),(.str ⟨#[]⟩),qN,qN])]
 (qr [qm 6 0,qt 7 213 6,qm 5 7]
 (.seq (qr [qm 8 5,qk 9 .lss 8 1,qm 10 9,⟨(some (10,false)),(some 11),.mv (.sl 5)⟩,⟨(some (10,false)),(some 12),.bin .gtr (.sl 11) (.k (.int .i64 1000000000000))⟩,qx 13 10 12]
 (qd 13 (.reg [qm 14 0,qo 15 (.nck (.sl 14)),qf 16 2 15,qe (.store 1 (.sl 16) (.k (.bool true)))] []) .skip))
 (qr [qm 17 1,qm 18 5,qo 19 (.build [(.int .i64 0),(.int .i64 0),(.int .i64 0),(.str ⟨#[]⟩),qN,qN] [(0,1,(.sl 17)),(1,1,(.sl 18))]),qs 6 4 19]
 .ret)))),[.cell 4 6 true],false⟩
def F215:bp:=⟨44,1,(
 qr [qo 2 (.alloc [(.int .i64 0),(.int .i64 0),(.int .i64 0),(.str ⟨#[]⟩),qN,qN])]
 (qr [qo 6 (.build [(.int .i64 0),(.int .i64 0),(.int .i64 0),(.str ⟨#[]⟩),qN,qN] [(0,1,(.k (.int .i64 10)))]),qo 3 (.alloc [(.int .i64 0),(.int .i64 0),(.int .i64 0),(.str ⟨#[]⟩),qN,qN]),qs 6 3 6]
 (.seq (.block 0 (.loop (.seq (qr [qm 7 0,qo 8 (.nck (.sl 7)),qf 9 2 8,ql 10 1 false 9,qo 11 (.un .not (.sl 10))]
 (qd 11 .skip (.exit 0)))
 (.block 1 (qr [qc 4 (.str ⟨#[110]⟩)]
 (qr [qi 5 8]
 (.seq (qr [qf 12 4 3,ql 13 1 false 12,qn 14 13,qk 15 .rem 14 2,qk 16 .eql 15 1]
 (qd 16 (qr [qc 4 (.str ⟨#[101]⟩)]
 (.reg [qi 5 9] [])) .skip))
 (.seq (qr [qm 17 0,qm 18 4,qu 19 210 17 18,qo 20 (.un .not (.sl 19))]
 (qd 20 (qr [qm 21 0,qt 22 209 21,qs 6 2 22]
 .ret) .skip))
 (.seq (.reg [qf 23 4 3,ql 24 1 false 23,qm 25 0,qm 26 5,qu 27 214 25 26,qo 28 (.bsl 199 6 [(.int .i64 0),(.int .i64 0),(.int .i64 0),(.str ⟨#[]⟩),qN,qN] 1 [(0,6,(.sl 27))]),qo 29 (.app 199 6 88 (.sl 24) (.sl 28)),qf 30 4 3,qs 1 30 29] [(1,4)])
 (.seq (qr [qm 31 5,qk 32 .eql 31 8,qm 33 32,⟨(some (33,true)),(some 34),.mv (.sl 0)⟩,⟨(some (33,true)),(some 35),.call 210 [(.sl 34),(.k (.str ⟨#[62]⟩))] []⟩,qy 36 33 35]
 (qd 36 (qr [ql 37 6 true 3,qs 6 2 37]
 .ret) .skip))
 (qr [qm 38 0,qo 39 (.call 210 [(.sl 38),(.k (.str ⟨#[32]⟩))] []),qo 40 (.un .not (.sl 39))]
 (qd 40 (qr [qm 41 0,qt 42 209 41,qs 6 2 42]
 .ret) .skip))))))))))))
 (qr [ql 43 6 true 3,qs 6 2 43]
 .ret)))),[.cell 2 6 true],false⟩
def F216:bp:=⟨33,1,(
 qr [qo 4 (.alloc [(.int .i64 0),(.int .i64 0),(.int .i64 0),(.str ⟨#[]⟩),qN,qN])]
 (qr [qo 6 (.build [(.int .i64 0),(.int .i64 0),(.int .i64 0),(.str ⟨#[]⟩),qN,qN] [(0,1,(.k (.int .i64 6)))]),qo 5 (.alloc [(.int .i64 0),(.int .i64 0),(.int .i64 0),(.str ⟨#[]⟩),qN,qN]),qs 6 5 6]
 (.seq (qr [qm 7 0,qo 8 (.call 210 [(.sl 7),(.k (.str ⟨#[93]⟩))] [])]
 (qd 8 (qr [ql 9 6 true 5,qs 6 4 9]
 .ret) .skip))
 (.seq (.block 0 (.loop (.seq (qr [qm 10 0,qo 11 (.nck (.sl 10)),qf 12 2 11,ql 13 1 false 12,qo 14 (.un .not (.sl 13))]
 (qd 14 .skip (.exit 0)))
 (.block 1 (.seq (.reg [qf 15 4 5,ql 16 1 false 15,qm 17 0,qm 18 1,qk 19 .add 18 1,qu 20 200 17 19,qo 21 (.bsl 199 6 [(.int .i64 0),(.int .i64 0),(.int .i64 0),(.str ⟨#[]⟩),qN,qN] 1 [(0,6,(.sl 20))]),qo 22 (.app 199 6 88 (.sl 16) (.sl 21)),qf 23 4 5,qs 1 23 22] [(1,5)])
 (.seq (qr [qm 24 0,qo 25 (.call 210 [(.sl 24),(.k (.str ⟨#[93]⟩))] [])]
 (qd 25 (qr [ql 26 6 true 5,qs 6 4 26]
 .ret) .skip))
 (qr [qm 27 0,qo 28 (.call 210 [(.sl 27),(.k (.str ⟨#[44]⟩))] []),qo 29 (.un .not (.sl 28))]
 (qd 29 (qr [qm 30 0,qt 31 209 30,qs 6 4 31]
 .ret) .skip))))))))
 (qr [ql 32 6 true 5,qs 6 4 32]
 .ret))))),[.cell 4 6 true],false⟩
def F217:bp:=⟨51,1,(
 qr [qo 4 (.alloc [(.int .i64 0),(.int .i64 0),(.int .i64 0),(.str ⟨#[]⟩),qN,qN])]
 (qr [qo 6 (.build [(.int .i64 0),(.int .i64 0),(.int .i64 0),(.str ⟨#[]⟩),qN,qN] [(0,1,(.k (.int .i64 7)))]),qo 5 (.alloc [(.int .i64 0),(.int .i64 0),(.int .i64 0),(.str ⟨#[]⟩),qN,qN]),qs 6 5 6]
 (.seq (qr [qm 7 0,qo 8 (.call 210 [(.sl 7),(.k (.str ⟨#[125]⟩))] [])]
 (qd 8 (qr [ql 9 6 true 5,qs 6 4 9]
 .ret) .skip))
 (.seq (.block 0 (.loop (.seq (qr [qm 10 0,qo 11 (.nck (.sl 10)),qf 12 2 11,ql 13 1 false 12,qo 14 (.un .not (.sl 13))]
 (qd 14 .skip (.exit 0)))
 (.block 1 (.seq (.reg [qf 15 5 5,ql 16 1 false 15,qm 17 0,qt 18 235 17,qo 19 (.bsl 9 1 [(.str ⟨#[]⟩)] 1 [(0,1,(.sl 18))]),qo 20 (.app 9 1 16 (.sl 16) (.sl 19)),qf 21 5 5,qs 1 21 20] [(1,3)])
 (.seq (qr [qm 22 0,qo 23 (.call 210 [(.sl 22),(.k (.str ⟨#[58]⟩))] []),qo 24 (.un .not (.sl 23))]
 (qd 24 (qr [qm 25 0,qt 26 209 25,qs 6 4 26]
 .ret) .skip))
 (.seq (.reg [qf 27 4 5,ql 28 1 false 27,qm 29 0,qm 30 1,qk 31 .add 30 1,qu 32 200 29 31,qo 33 (.bsl 199 6 [(.int .i64 0),(.int .i64 0),(.int .i64 0),(.str ⟨#[]⟩),qN,qN] 1 [(0,6,(.sl 32))]),qo 34 (.app 199 6 88 (.sl 28) (.sl 33)),qf 35 4 5,qs 1 35 34] [(1,5)])
 (.seq (qr [qm 36 0,qo 37 (.call 210 [(.sl 36),(.k (.str ⟨#[125]⟩))] [])]
 (qd 37 (.seq (qr [qf 38 5 5,ql 39 1 false 38,qt 40 166 39,qo 41 (.un .not (.sl 40))]
 (qd 41 (qr [qm 42 0,qt 43 209 42,qs 6 4 43]
 .ret) .skip))
 (qr [ql 44 6 true 5,qs 6 4 44]
 .ret)) .skip))
 (qr [qm 45 0,qo 46 (.call 210 [(.sl 45),(.k (.str ⟨#[44]⟩))] []),qo 47 (.un .not (.sl 46))]
 (qd 47 (qr [qm 48 0,qt 49 209 48,qs 6 4 49]
 .ret) .skip))))))))))
 (qr [ql 50 6 true 5,qs 6 4 50]
 .ret))))),[.cell 4 6 true],false⟩
def F231:bp:=⟨18,0,(
 qr [qc 4 (.bool false)]
 (qr [qm 5 0,qo 6 (.slen (.sl 5)),qm 7 1,qo 8 (.slen (.sl 7)),qb 9 .geq 6 8,qm 10 9,⟨(some (10,true)),(some 11),.mv (.sl 0)⟩,⟨(some (10,true)),(some 12),.mv (.sl 1)⟩,⟨(some (10,true)),(some 13),.slen (.sl 12)⟩,⟨(some (10,true)),(some 14),.ssl (.sl 11) none (some (.sl 13))⟩,⟨(some (10,true)),(some 15),.mv (.sl 1)⟩,⟨(some (10,true)),(some 16),.bin .eql (.sl 14) (.sl 15)⟩,qy 17 10 16,qm 4 17]
 .ret)),[.tmp 4],false⟩
def F232:bp:=⟨61,1,(
 qr [qi 4 0]
 (qr [qi 5 0]
 (.seq (qr [qi 6 0]
 (.block 0 (.loop (.seq (qr [qm 7 6,qm 8 1,qb 9 .lss 7 8]
 (qd 9 .skip (.exit 0)))
 (.seq (.block 1 (.seq (qr [qm 12 0,qo 13 (.nck (.sl 12)),qf 14 1 13,ql 15 1 false 14,qm 16 0,qo 17 (.nck (.sl 16)),qf 18 0 17,ql 19 1 false 18,qo 20 (.slen (.sl 19)),qb 21 .geq 15 20,qm 22 21,⟨(some (22,false)),(some 23),.mv (.sl 0)⟩,⟨(some (22,false)),(some 24),.nck (.sl 23)⟩,⟨(some (22,false)),(some 25),.fad 0 (.sl 24)⟩,⟨(some (22,false)),(some 26),.load 1 false (.sl 25)⟩,⟨(some (22,false)),(some 27),.mv (.sl 0)⟩,⟨(some (22,false)),(some 28),.nck (.sl 27)⟩,⟨(some (22,false)),(some 29),.fad 1 (.sl 28)⟩,⟨(some (22,false)),(some 30),.load 1 false (.sl 29)⟩,⟨(some (22,false)),(some 31),.sidx (.sl 26) (.sl 30)⟩,⟨(some (22,false)),(some 32),.call 169 [.sl 31] []⟩,⟨(some (22,false)),(some 33),.un .not (.sl 32)⟩,qx 34 22 33]
 (qd 34 (qr [qm 35 0,qo 36 (.nck (.sl 35)),qf 37 2 36,qe (.store 1 (.sl 37) (.k (.bool true)))]
 (qr [qi 4 0]
 .ret)) .skip))
 (qr [qm 38 5,qk 39 .mul 38 10,qm 40 0,qo 41 (.nck (.sl 40)),qf 42 0 41,ql 43 1 false 42,qm 44 0,qo 45 (.nck (.sl 44)),qf 46 1 45,ql 47 1 false 46,qo 48 (.sidx (.sl 43) (.sl 47)),qo 49 (.bin .sub (.sl 48) (.k (.int .u8 48))),qo 50 (.toInt .i64 (.sl 49)),qb 51 .add 39 50,qm 5 51]
 (.reg [qm 52 0,qm 53 0,qo 54 (.nck (.sl 53)),qf 55 1 54,ql 56 1 false 55,qk 57 .add 56 1,qo 58 (.nck (.sl 52)),qf 59 1 58,qs 1 59 57] []))))
 (.reg [qm 10 6,qk 11 .add 10 1,qm 6 11] []))))))
 (qr [qm 60 5,qm 4 60]
 .ret)))),[.tmp 4],false⟩
def F233:bp:=⟨16,0,(
 qr [qi 4 0]
 (qg [qm 5 1,qk 6 .eql 5 2,qm 7 6,⟨(some (7,true)),(some 8),.mv (.sl 0)⟩,⟨(some (7,true)),(some 9),.call 244 [.sl 8] []⟩,qy 10 7 9] 10 (qi 4 29)
 (qr [qo 11 (.bsl 2 1 [(.int .i64 0)] 12 [(0,1,(.k (.int .i64 31))),(1,1,(.k (.int .i64 28))),(2,1,(.k (.int .i64 31))),(3,1,(.k (.int .i64 30))),(4,1,(.k (.int .i64 31))),(5,1,(.k (.int .i64 30))),(6,1,(.k (.int .i64 31))),(7,1,(.k (.int .i64 31))),(8,1,(.k (.int .i64 30))),(9,1,(.k (.int .i64 31))),(10,1,(.k (.int .i64 30))),(11,1,(.k (.int .i64 31)))]),qm 12 1,qk 13 .sub 12 1,qa 14 1 11 13,ql 15 1 false 14,qm 4 15]
 .ret))),[.tmp 4],false⟩
def F234:bp:=⟨16,0,(
 qr [qi 2 0]
 (qr [qm 3 0,qk 4 .sub 3 1,qm 0 4]
 (qr [qm 5 0,qk 6 .mul 5 365,qm 7 0,qk 8 .quo 7 4,qb 9 .add 6 8,qm 10 0,qk 11 .quo 10 100,qb 12 .sub 9 11,qm 13 0,qk 14 .quo 13 400,qb 15 .add 12 14,qm 2 15]
 .ret))),[.tmp 2],false⟩
def F235:bp:=⟨87,1,(
 qr [qc 2 (.str ⟨#[]⟩)]
 (qr [qm 4 0,qo 5 (.nck (.sl 4)),qf 6 1 5,ql 7 1 false 6,qm 3 7]
 (.seq (.block 0 (.loop (.seq (qr [qm 8 0,qo 9 (.nck (.sl 8)),qf 10 1 9,ql 11 1 false 10,qm 12 0,qo 13 (.nck (.sl 12)),qf 14 0 13,ql 15 1 false 14,qo 16 (.slen (.sl 15)),qb 17 .lss 11 16,qm 18 17,⟨(some (18,true)),(some 19),.mv (.sl 0)⟩,⟨(some (18,true)),(some 20),.nck (.sl 19)⟩,⟨(some (18,true)),(some 21),.fad 0 (.sl 20)⟩,⟨(some (18,true)),(some 22),.load 1 false (.sl 21)⟩,⟨(some (18,true)),(some 23),.mv (.sl 0)⟩,⟨(some (18,true)),(some 24),.nck (.sl 23)⟩,⟨(some (18,true)),(some 25),.fad 1 (.sl 24)⟩,⟨(some (18,true)),(some 26),.load 1 false (.sl 25)⟩,⟨(some (18,true)),(some 27),.sidx (.sl 22) (.sl 26)⟩,⟨(some (18,true)),(some 28),.call 168 [.sl 27] []⟩,⟨(some (18,true)),(some 29),.mv (.sl 28)⟩,⟨(some (29,false)),(some 30),.mv (.sl 0)⟩,⟨(some (29,false)),(some 31),.nck (.sl 30)⟩,⟨(some (29,false)),(some 32),.fad 0 (.sl 31)⟩,⟨(some (29,false)),(some 33),.load 1 false (.sl 32)⟩,⟨(some (29,false)),(some 34),.mv (.sl 0)⟩,⟨(some (29,false)),(some 35),.nck (.sl 34)⟩,⟨(some (29,false)),(some 36),.fad 1 (.sl 35)⟩,⟨(some (29,false)),(some 37),.load 1 false (.sl 36)⟩,⟨(some (29,false)),(some 38),.sidx (.sl 33) (.sl 37)⟩,⟨(some (29,false)),(some 39),.call 169 [.sl 38] []⟩,⟨(some (18,true)),(some 40),.pick (.sl 29) (.k (.bool true)) (.sl 39)⟩,⟨(some (18,true)),(some 41),.mv (.sl 40)⟩,⟨(some (41,false)),(some 42),.mv (.sl 0)⟩,⟨(some (41,false)),(some 43),.nck (.sl 42)⟩,⟨(some (41,false)),(some 44),.fad 0 (.sl 43)⟩,⟨(some (41,false)),(some 45),.load 1 false (.sl 44)⟩,⟨(some (41,false)),(some 46),.mv (.sl 0)⟩,⟨(some (41,false)),(some 47),.nck (.sl 46)⟩,⟨(some (41,false)),(some 48),.fad 1 (.sl 47)⟩,⟨(some (41,false)),(some 49),.load 1 false (.sl 48)⟩,⟨(some (41,false)),(some 50),.sidx (.sl 45) (.sl 49)⟩,⟨(some (41,false)),(some 51),.bin .eql (.sl 50) (.k (.int .u8 95))⟩,⟨(some (18,true)),(some 52),.pick (.sl 41) (.k (.bool true)) (.sl 51)⟩,qy 53 18 52]
 (qd 53 .skip (.exit 0)))
 (.block 1 (.reg [qm 54 0,qm 55 0,qo 56 (.nck (.sl 55)),qf 57 1 56,ql 58 1 false 57,qk 59 .add 58 1,qo 60 (.nck (.sl 54)),qf 61 1 60,qs 1 61 59] [])))))
 (.seq (qr [qm 62 0,qo 63 (.nck (.sl 62)),qf 64 0 63,ql 65 1 false 64,qm 66 3,qm 67 0,qo 68 (.nck (.sl 67)),qf 69 1 68,ql 70 1 false 69,qo 71 (.ssl (.sl 65) (some (.sl 66)) (some (.sl 70))),qt 72 121 71,qo 73 (.un .not (.sl 72))]
 (qd 73 (.reg [qm 74 0,qo 75 (.nck (.sl 74)),qf 76 2 75,qe (.store 1 (.sl 76) (.k (.bool true)))] []) .skip))
 (qr [qm 77 0,qo 78 (.nck (.sl 77)),qf 79 0 78,ql 80 1 false 79,qm 81 3,qm 82 0,qo 83 (.nck (.sl 82)),qf 84 1 83,ql 85 1 false 84,qo 86 (.ssl (.sl 80) (some (.sl 81)) (some (.sl 85))),qm 2 86]
 .ret))))),[.tmp 2],false⟩
def F244:bp:=⟨16,0,(
 qr [qc 2 (.bool false)]
 (qr [qm 3 0,qk 4 .rem 3 4,qk 5 .eql 4 0,qm 6 5,⟨(some (6,true)),(some 7),.mv (.sl 0)⟩,⟨(some (6,true)),(some 8),.bin .rem (.sl 7) (.k (.int .i64 100))⟩,⟨(some (6,true)),(some 9),.bin .neq (.sl 8) (.k (.int .i64 0))⟩,⟨(some (6,true)),(some 10),.mv (.sl 9)⟩,⟨(some (10,false)),(some 11),.mv (.sl 0)⟩,⟨(some (10,false)),(some 12),.bin .rem (.sl 11) (.k (.int .i64 400))⟩,⟨(some (10,false)),(some 13),.bin .eql (.sl 12) (.k (.int .i64 0))⟩,⟨(some (6,true)),(some 14),.pick (.sl 10) (.k (.bool true)) (.sl 13)⟩,qy 15 6 14,qm 2 15]
 .ret)),[.tmp 2],false⟩
def F98:bp:=⟨38,0,(
 qr [qc 2 (.str ⟨#[]⟩)]
 (.seq (qr [qm 3 0,qk 4 .lss 3 0]
 (qd 4 (.seq (qr [qm 5 0,qk 6 .gtr 5 (-10)]
 (qd 6 (qr [qm 7 0,qo 8 (.un .neg (.sl 7)),qt 9 98 8,qo 10 (.bin .add (.k (.str ⟨#[45]⟩)) (.sl 9)),qm 2 10]
 .ret) .skip))
 (qr [qm 11 0,qk 12 .quo 11 10,qt 13 98 12,qm 14 0,qk 15 .rem 14 10,qo 16 (.bin .sub (.k (.int .i64 48)) (.sl 15)),qo 17 (.toInt .u8 (.sl 16)),qo 18 (.bsl 5 1 [(.int .u8 0)] 1 [(0,1,(.sl 17))]),qo 19 (.b2s (.sl 18)),qb 20 .add 13 19,qm 2 20]
 .ret)) .skip))
 (.seq (qr [qm 21 0,qk 22 .lss 21 10]
 (qd 22 (qr [qm 23 0,qo 24 (.bin .add (.k (.int .i64 48)) (.sl 23)),qo 25 (.toInt .u8 (.sl 24)),qo 26 (.bsl 5 1 [(.int .u8 0)] 1 [(0,1,(.sl 25))]),qo 27 (.b2s (.sl 26)),qm 2 27]
 .ret) .skip))
 (qr [qm 28 0,qk 29 .quo 28 10,qt 30 98 29,qm 31 0,qk 32 .rem 31 10,qo 33 (.bin .add (.k (.int .i64 48)) (.sl 32)),qo 34 (.toInt .u8 (.sl 33)),qo 35 (.bsl 5 1 [(.int .u8 0)] 1 [(0,1,(.sl 34))]),qo 36 (.b2s (.sl 35)),qb 37 .add 30 36,qm 2 37]
 .ret)))),[.tmp 2],false⟩
def F46:bp:=⟨92,0,(
 qr [qo 1 (.box 2 (.sl 0)),qc 2 (.bool false)]
 (qg [qf 8 0 1,ql 9 1 false 8,qn 10 9,qk 11 .gtr 10 200,qm 12 11,⟨(some (12,false)),(some 13),.fad 1 (.sl 1)⟩,⟨(some (12,false)),(some 14),.load 1 false (.sl 13)⟩,⟨(some (12,false)),(some 15),.len (.sl 14)⟩,⟨(some (12,false)),(some 16),.bin .gtr (.sl 15) (.k (.int .i64 400))⟩,qx 17 12 16] 17 (qc 2 (.bool false))
 (qr [qo 18 (.mkmap),qm 3 18]
 (.seq (qr [qf 19 0 1,ql 20 1 false 19,qn 21 20,qi 22 0]
 (.block 0 (.loop (qr [qb 23 .lss 22 21]
 (.seq (qd 23 .skip (.exit 0))
 (.seq (.block 1 (qr [qm 24 22,qa 25 3 20 22,ql 26 3 true 25,qo 5 (.alloc [(.int .i64 0),qN,qN]),qm 4 24,qs 3 5 26]
 (qg [ql 27 3 true 5,qt 28 88 27,qo 29 (.un .not (.sl 28)),qm 30 29,⟨(some (30,false)),(some 31),.mv (.sl 4)⟩,⟨(some (30,false)),(some 32),.bin .gtr (.sl 31) (.k (.int .i64 0))⟩,⟨(some (30,false)),(some 33),.mv (.sl 32)⟩,⟨(some (33,true)),(some 34),.fad 0 (.sl 1)⟩,⟨(some (33,true)),(some 35),.load 1 false (.sl 34)⟩,⟨(some (33,true)),(some 36),.mv (.sl 4)⟩,⟨(some (33,true)),(some 37),.bin .sub (.sl 36) (.k (.int .i64 1))⟩,⟨(some (33,true)),(some 38),.iad 3 (.sl 35) (.sl 37)⟩,⟨(some (33,true)),(some 39),.fad 0 (.sl 38)⟩,⟨(some (33,true)),(some 40),.load 1 false (.sl 39)⟩,⟨(some (33,true)),(some 41),.fad 0 (.sl 5)⟩,⟨(some (33,true)),(some 42),.load 1 false (.sl 41)⟩,⟨(some (33,true)),(some 43),.bin .geq (.sl 40) (.sl 42)⟩,⟨(some (30,false)),(some 44),.pick (.sl 33) (.sl 43) (.k (.bool false))⟩,qx 45 30 44] 45 (qc 2 (.bool false))
 (.reg [qm 46 3,qf 47 0 5,ql 48 1 false 47,qe (.mpset 0 (.sl 46) (.sl 48) (.k (.int .i64 1)))] []))))
 (.reg [qk 49 .add 22 1,qm 22 49] [])))))))
 (.seq (qr [qf 50 1 1,ql 51 1 false 50,qn 52 51,qi 53 0]
 (.block 2 (.loop (qr [qb 54 .lss 53 52]
 (.seq (qd 54 .skip (.exit 2))
 (.seq (.block 3 (qr [qm 55 53,qa 56 5 51 53,ql 57 5 true 56,qo 7 (.alloc [(.int .i64 0),(.str ⟨#[]⟩),(.int .i64 0),(.int .i64 0),qN]),qm 6 55,qs 5 7 57]
 (qr [ql 58 5 true 7,qt 59 89 58,qo 60 (.un .not (.sl 59)),qm 61 60,⟨(some (61,false)),(some 62),.mv (.sl 6)⟩,⟨(some (61,false)),(some 63),.bin .gtr (.sl 62) (.k (.int .i64 0))⟩,⟨(some (61,false)),(some 64),.mv (.sl 63)⟩,⟨(some (64,true)),(some 65),.fad 1 (.sl 1)⟩,⟨(some (64,true)),(some 66),.load 1 false (.sl 65)⟩,⟨(some (64,true)),(some 67),.mv (.sl 6)⟩,⟨(some (64,true)),(some 68),.bin .sub (.sl 67) (.k (.int .i64 1))⟩,⟨(some (64,true)),(some 69),.iad 5 (.sl 66) (.sl 68)⟩,⟨(some (64,true)),(some 70),.fad 0 (.sl 69)⟩,⟨(some (64,true)),(some 71),.load 1 false (.sl 70)⟩,⟨(some (64,true)),(some 72),.fad 0 (.sl 7)⟩,⟨(some (64,true)),(some 73),.load 1 false (.sl 72)⟩,⟨(some (64,true)),(some 74),.bin .geq (.sl 71) (.sl 73)⟩,⟨(some (61,false)),(some 75),.pick (.sl 64) (.sl 74) (.k (.bool false))⟩,qx 76 61 75,qm 77 76,⟨(some (77,false)),(some 78),.mv (.sl 3)⟩,⟨(some (77,false)),(some 79),.fad 2 (.sl 7)⟩,⟨(some (77,false)),(some 80),.load 1 false (.sl 79)⟩,⟨(some (77,false)),(some 81),.mpget false (.int .i64 0) 0 (.sl 78) (.sl 80)⟩,⟨(some (77,false)),(some 82),.bin .eql (.sl 81) (.k (.int .i64 0))⟩,qx 83 77 82,qm 84 83,⟨(some (84,false)),(some 85),.mv (.sl 3)⟩,⟨(some (84,false)),(some 86),.fad 3 (.sl 7)⟩,⟨(some (84,false)),(some 87),.load 1 false (.sl 86)⟩,⟨(some (84,false)),(some 88),.mpget false (.int .i64 0) 0 (.sl 85) (.sl 87)⟩,⟨(some (84,false)),(some 89),.bin .eql (.sl 88) (.k (.int .i64 0))⟩,qx 90 84 89]
 (qd 90 (qr [qc 2 (.bool false)]
 .ret) .skip))))
 (.reg [qk 91 .add 53 1,qm 53 91] [])))))))
 (qr [qc 2 (.bool true)]
 .ret)))))),[.tmp 2],false⟩
def F88:bp:=⟨16,0,(
 qr [qo 1 (.box 3 (.sl 0)),qc 2 (.bool false)]
 (qr [qf 3 0 1,ql 4 1 false 3,qt 5 124 4,qm 6 5,⟨(some (6,true)),(some 7),.fad 1 (.sl 1)⟩,⟨(some (6,true)),(some 8),.load 1 false (.sl 7)⟩,⟨(some (6,true)),(some 9),.call 125 [(.sl 8),(.k (.int .i64 10))] []⟩,qy 10 6 9,qm 11 10,⟨(some (11,true)),(some 12),.fad 2 (.sl 1)⟩,⟨(some (11,true)),(some 13),.load 1 false (.sl 12)⟩,⟨(some (11,true)),(some 14),.call 126 [.sl 13] []⟩,qy 15 11 14,qm 2 15]
 .ret)),[.tmp 2],false⟩
def F89:bp:=⟨26,0,(
 qr [qo 1 (.box 5 (.sl 0)),qc 2 (.bool false)]
 (qr [qf 3 0 1,ql 4 1 false 3,qt 5 124 4,qm 6 5,⟨(some (6,true)),(some 7),.fad 1 (.sl 1)⟩,⟨(some (6,true)),(some 8),.load 1 false (.sl 7)⟩,⟨(some (6,true)),(some 9),.call 127 [.sl 8] []⟩,qy 10 6 9,qm 11 10,⟨(some (11,true)),(some 12),.fad 2 (.sl 1)⟩,⟨(some (11,true)),(some 13),.load 1 false (.sl 12)⟩,⟨(some (11,true)),(some 14),.call 124 [.sl 13] []⟩,qy 15 11 14,qm 16 15,⟨(some (16,true)),(some 17),.fad 3 (.sl 1)⟩,⟨(some (16,true)),(some 18),.load 1 false (.sl 17)⟩,⟨(some (16,true)),(some 19),.call 124 [.sl 18] []⟩,qy 20 16 19,qm 21 20,⟨(some (21,true)),(some 22),.fad 4 (.sl 1)⟩,⟨(some (21,true)),(some 23),.load 1 false (.sl 22)⟩,⟨(some (21,true)),(some 24),.call 126 [.sl 23] []⟩,qy 25 21 24,qm 2 25]
 .ret)),[.tmp 2],false⟩
def F90:bp:=⟨21,0,(
 qr [qo 2 (.box 2 (.sl 0)),qi 4 0]
 (.seq (qr [qf 7 0 2,ql 8 1 false 7,qn 9 8,qi 10 0]
 (.block 0 (.loop (qr [qb 11 .lss 10 9]
 (.seq (qd 11 .skip (.exit 0))
 (.seq (.block 1 (qr [qm 12 10,qa 13 3 8 10,ql 14 3 true 13,qo 6 (.alloc [(.int .i64 0),qN,qN]),qm 5 12,qs 3 6 14]
 (qr [qf 15 0 6,ql 16 1 false 15,qm 17 1,qb 18 .eql 16 17]
 (qd 18 (qr [qm 19 5,qm 4 19]
 .ret) .skip))))
 (.reg [qk 20 .add 10 1,qm 10 20] [])))))))
 (qr [qi 4 (-1)]
 .ret))),[.tmp 4],false⟩
def F124:bp:=⟨9,0,(
 qr [qc 2 (.bool false)]
 (qr [qm 3 0,qk 4 .geq 3 1,qm 5 4,⟨(some (5,true)),(some 6),.mv (.sl 0)⟩,⟨(some (5,true)),(some 7),.bin .leq (.sl 6) (.k (.int .i64 1000000000000))⟩,qy 8 5 7,qm 2 8]
 .ret)),[.tmp 2],false⟩
def F125:bp:=⟨35,0,(
 qr [qc 4 (.bool false)]
 (qg [qm 7 0,qn 8 7,qm 9 1,qb 10 .gtr 8 9] 10 (qc 4 (.bool false))
 (.seq (qr [qm 11 0,qn 12 11,qi 13 0]
 (.block 0 (.loop (qr [qb 14 .lss 13 12]
 (.seq (qd 14 .skip (.exit 0))
 (.seq (.block 1 (qr [qm 15 13,qa 16 1 11 13,ql 17 1 false 16,qm 5 15,qm 6 17]
 (qr [qm 18 6,qt 19 127 18,qo 20 (.un .not (.sl 19)),qm 21 20,⟨(some (21,false)),(some 22),.mv (.sl 5)⟩,⟨(some (21,false)),(some 23),.bin .gtr (.sl 22) (.k (.int .i64 0))⟩,⟨(some (21,false)),(some 24),.mv (.sl 23)⟩,⟨(some (24,true)),(some 25),.mv (.sl 0)⟩,⟨(some (24,true)),(some 26),.mv (.sl 5)⟩,⟨(some (24,true)),(some 27),.bin .sub (.sl 26) (.k (.int .i64 1))⟩,⟨(some (24,true)),(some 28),.iad 1 (.sl 25) (.sl 27)⟩,⟨(some (24,true)),(some 29),.load 1 false (.sl 28)⟩,⟨(some (24,true)),(some 30),.mv (.sl 6)⟩,⟨(some (24,true)),(some 31),.bin .geq (.sl 29) (.sl 30)⟩,⟨(some (21,false)),(some 32),.pick (.sl 24) (.sl 31) (.k (.bool false))⟩,qx 33 21 32]
 (qd 33 (qr [qc 4 (.bool false)]
 .ret) .skip))))
 (.reg [qk 34 .add 13 1,qm 13 34] [])))))))
 (qr [qc 4 (.bool true)]
 .ret)))),[.tmp 4],false⟩
def F126:bp:=⟨41,0,(
 qr [qc 2 (.bool false)]
 (qg [qm 5 0,qn 6 5,qk 7 .gtr 6 20] 7 (qc 2 (.bool false))
 (.seq (qr [qm 8 0,qn 9 8,qi 10 0]
 (.block 0 (.loop (qr [qb 11 .lss 10 9]
 (.seq (qd 11 .skip (.exit 0))
 (.seq (.block 1 (qr [qm 12 10,qa 13 2 8 10,ql 14 2 true 13,qo 4 (.alloc [(.str ⟨#[]⟩),(.str ⟨#[]⟩)]),qm 3 12,qs 2 4 14]
 (qr [qf 15 0 4,ql 16 1 false 15,qt 17 127 16,qo 18 (.un .not (.sl 17)),qm 19 18,⟨(some (19,false)),(some 20),.mv (.sl 3)⟩,⟨(some (19,false)),(some 21),.bin .gtr (.sl 20) (.k (.int .i64 0))⟩,⟨(some (19,false)),(some 22),.mv (.sl 21)⟩,⟨(some (22,true)),(some 23),.mv (.sl 0)⟩,⟨(some (22,true)),(some 24),.mv (.sl 3)⟩,⟨(some (22,true)),(some 25),.bin .sub (.sl 24) (.k (.int .i64 1))⟩,⟨(some (22,true)),(some 26),.iad 2 (.sl 23) (.sl 25)⟩,⟨(some (22,true)),(some 27),.fad 0 (.sl 26)⟩,⟨(some (22,true)),(some 28),.load 1 false (.sl 27)⟩,⟨(some (22,true)),(some 29),.fad 0 (.sl 4)⟩,⟨(some (22,true)),(some 30),.load 1 false (.sl 29)⟩,⟨(some (22,true)),(some 31),.bin .geq (.sl 28) (.sl 30)⟩,⟨(some (19,false)),(some 32),.pick (.sl 22) (.sl 31) (.k (.bool false))⟩,qx 33 19 32,qm 34 33,⟨(some (34,false)),(some 35),.fad 1 (.sl 4)⟩,⟨(some (34,false)),(some 36),.load 1 false (.sl 35)⟩,⟨(some (34,false)),(some 37),.call 171 [.sl 36] []⟩,⟨(some (34,false)),(some 38),.un .not (.sl 37)⟩,qx 39 34 38]
 (qd 39 (qr [qc 2 (.bool false)]
 .ret) .skip))))
 (.reg [qk 40 .add 10 1,qm 10 40] [])))))))
 (qr [qc 2 (.bool true)]
 .ret)))),[.tmp 2],false⟩
def F127:bp:=⟨42,0,(
 qr [qc 2 (.bool false)]
 (qg [qm 4 0,qo 5 (.slen (.sl 4)),qk 6 .lss 5 1,qm 7 6,⟨(some (7,false)),(some 8),.mv (.sl 0)⟩,⟨(some (7,false)),(some 9),.slen (.sl 8)⟩,⟨(some (7,false)),(some 10),.bin .gtr (.sl 9) (.k (.int .i64 20))⟩,qx 11 7 10,qm 12 11,⟨(some (12,false)),(some 13),.mv (.sl 0)⟩,⟨(some (12,false)),(some 14),.sidx (.sl 13) (.k (.int .i64 0))⟩,⟨(some (12,false)),(some 15),.call 172 [.sl 14] []⟩,⟨(some (12,false)),(some 16),.un .not (.sl 15)⟩,qx 17 12 16] 17 (qc 2 (.bool false))
 (.seq (qr [qm 18 0,qo 19 (.slen (.sl 18)),qi 20 0]
 (.block 0 (.loop (qr [qb 21 .lss 20 19]
 (.seq (qd 21 .skip (.exit 0))
 (.seq (.block 1 (qr [qm 22 20,qm 3 22]
 (qr [qm 23 0,qm 24 3,qo 25 (.sidx (.sl 23) (.sl 24)),qt 26 172 25,qo 27 (.un .not (.sl 26)),qm 28 27,⟨(some (28,true)),(some 29),.mv (.sl 0)⟩,⟨(some (28,true)),(some 30),.mv (.sl 3)⟩,⟨(some (28,true)),(some 31),.sidx (.sl 29) (.sl 30)⟩,⟨(some (28,true)),(some 32),.call 173 [.sl 31] []⟩,⟨(some (28,true)),(some 33),.un .not (.sl 32)⟩,qy 34 28 33,qm 35 34,⟨(some (35,true)),(some 36),.mv (.sl 0)⟩,⟨(some (35,true)),(some 37),.mv (.sl 3)⟩,⟨(some (35,true)),(some 38),.sidx (.sl 36) (.sl 37)⟩,⟨(some (35,true)),(some 39),.bin .neq (.sl 38) (.k (.int .u8 95))⟩,qy 40 35 39]
 (qd 40 (qr [qc 2 (.bool false)]
 .ret) .skip))))
 (.reg [qk 41 .add 20 1,qm 20 41] [])))))))
 (qr [qc 2 (.bool true)]
 .ret)))),[.tmp 2],false⟩
def F171:bp:=⟨21,0,(
 qr [qc 2 (.bool false)]
 (qr [qm 6 0,qt 7 188 6,qm 5 7,qo 8 (.ext (.sl 5) 0),qo 9 (.ext (.sl 5) 1),qo 3 (.alloc [(.int .i64 0),(.int .i64 0),(.int .i64 0),(.str ⟨#[]⟩),qN,qN]),qs 6 3 8,qm 4 9]
 (qr [qm 10 4,qm 11 10,⟨(some (11,true)),(some 12),.fad 0 (.sl 3)⟩,⟨(some (11,true)),(some 13),.load 1 false (.sl 12)⟩,⟨(some (11,true)),(some 14),.bin .neq (.sl 13) (.k (.int .i64 0))⟩,qy 15 11 14,qm 16 15,⟨(some (16,true)),(some 17),.load 6 true (.sl 3)⟩,⟨(some (16,true)),(some 18),.call 192 [.sl 17] []⟩,⟨(some (16,true)),(some 19),.un .not (.sl 18)⟩,qy 20 16 19,qm 2 20]
 .ret))),[.tmp 2],false⟩
def F172:bp:=⟨17,0,(
 qr [qc 2 (.bool false)]
 (qr [qm 3 0,qo 4 (.bin .geq (.sl 3) (.k (.int .u8 97))),qm 5 4,⟨(some (5,true)),(some 6),.mv (.sl 0)⟩,⟨(some (5,true)),(some 7),.bin .leq (.sl 6) (.k (.int .u8 122))⟩,qy 8 5 7,qm 9 8,⟨(some (9,false)),(some 10),.mv (.sl 0)⟩,⟨(some (9,false)),(some 11),.bin .geq (.sl 10) (.k (.int .u8 65))⟩,⟨(some (9,false)),(some 12),.mv (.sl 11)⟩,⟨(some (12,true)),(some 13),.mv (.sl 0)⟩,⟨(some (12,true)),(some 14),.bin .leq (.sl 13) (.k (.int .u8 90))⟩,⟨(some (9,false)),(some 15),.pick (.sl 12) (.sl 14) (.k (.bool false))⟩,qx 16 9 15,qm 2 16]
 .ret)),[.tmp 2],false⟩
def F173:bp:=⟨9,0,(
 qr [qc 2 (.bool false)]
 (qr [qm 3 0,qo 4 (.bin .geq (.sl 3) (.k (.int .u8 48))),qm 5 4,⟨(some (5,true)),(some 6),.mv (.sl 0)⟩,⟨(some (5,true)),(some 7),.bin .leq (.sl 6) (.k (.int .u8 57))⟩,qy 8 5 7,qm 2 8]
 .ret)),[.tmp 2],false⟩
def F188:bp:=⟨30,0,(
 qr [qo 2 (.alloc [(.int .i64 0),(.int .i64 0),(.int .i64 0),(.str ⟨#[]⟩),qN,qN]),qc 3 (.bool false)]
 (.seq (qr [qm 7 0,qo 8 (.slen (.sl 7)),qk 9 .gtr 8 2000]
 (qd 9 (qr [qo 10 (.build [(.int .i64 0),(.int .i64 0),(.int .i64 0),(.str ⟨#[]⟩),qN,qN] []),qs 6 2 10,qc 3 (.bool false)]
 .ret) .skip))
 (qr [qm 11 0,qo 12 (.build [(.str ⟨#[]⟩),(.int .i64 0)] [(0,1,(.sl 11))]),qo 13 (.box 2 (.sl 12)),qm 4 13]
 (qr [qm 15 4,qo 16 (.call 201 [(.sl 15),(.k (.int .i64 0))] []),qm 14 16,qo 17 (.ext (.sl 14) 0),qo 18 (.ext (.sl 14) 1),qo 5 (.alloc [(.int .i64 0),(.int .i64 0),(.int .i64 0),(.str ⟨#[]⟩),qN,qN]),qs 6 5 17,qm 6 18]
 (.seq (.reg [ql 19 6 true 5,qm 20 6,qm 21 20,⟨(some (21,true)),(some 22),.mv (.sl 4)⟩,⟨(some (21,true)),(some 23),.nck (.sl 22)⟩,⟨(some (21,true)),(some 24),.fad 1 (.sl 23)⟩,⟨(some (21,true)),(some 25),.load 1 false (.sl 24)⟩,⟨(some (21,true)),(some 26),.mv (.sl 0)⟩,⟨(some (21,true)),(some 27),.slen (.sl 26)⟩,⟨(some (21,true)),(some 28),.bin .eql (.sl 25) (.sl 27)⟩,qy 29 21 28,qs 6 2 19,qm 3 29] [(6,11)])
 .ret))))),[.cell 2 6 true,.tmp 3],false⟩
def F192:bp:=⟨18,0,(
 qr [qo 1 (.box 6 (.sl 0)),qc 2 (.bool false)]
 (qg [qf 5 0 1,ql 6 1 false 5,qk 7 .geq 6 8] 7 (qc 2 (.bool true))
 (.seq (qr [qf 8 5 1,ql 9 1 false 8,qn 10 9,qi 11 0]
 (.block 0 (.loop (qr [qb 12 .lss 11 10]
 (.seq (qd 12 .skip (.exit 0))
 (.seq (.block 1 (qr [qa 13 6 9 11,ql 14 6 true 13,qo 4 (.alloc [(.int .i64 0),(.int .i64 0),(.int .i64 0),(.str ⟨#[]⟩),qN,qN]),qs 6 4 14]
 (qr [ql 15 6 true 4,qt 16 192 15]
 (qd 16 (qr [qc 2 (.bool true)]
 .ret) .skip))))
 (.reg [qk 17 .add 11 1,qm 11 17] [])))))))
 (qr [qc 2 (.bool false)]
 .ret)))),[.tmp 2],false⟩
def F201:bp:=⟨106,1,(
 qr [qo 4 (.alloc [(.int .i64 0),(.int .i64 0),(.int .i64 0),(.str ⟨#[]⟩),qN,qN]),qc 5 (.bool false)]
 (.seq (qr [qm 13 0,qt 14 218 13,qm 6 14]
 (.block 0 (qr [qm 16 6,qo 17 (.bin .eql (.sl 16) (.k (.int .u8 34))),qm 15 17]
 (qd 15 (qr [qm 19 0,qt 20 219 19,qm 18 20,qo 21 (.ext (.sl 18) 0),qo 22 (.ext (.sl 18) 1),qm 7 21,qm 8 22]
 (qr [qm 23 7,qo 24 (.build [(.int .i64 0),(.int .i64 0),(.int .i64 0),(.str ⟨#[]⟩),qN,qN] [(0,1,(.k (.int .i64 3))),(3,1,(.sl 23))]),qm 25 8,qs 6 4 24,qm 5 25]
 .ret)) (qr [qm 27 6,qo 28 (.bin .eql (.sl 27) (.k (.int .u8 64))),qm 26 28]
 (qd 26 (qr [qm 30 0,qt 31 220 30,qm 29 31,qo 32 (.ext (.sl 29) 0),qo 33 (.ext (.sl 29) 1),qm 9 32,qm 10 33]
 (qr [qm 34 9,qo 35 (.build [(.int .i64 0),(.int .i64 0),(.int .i64 0),(.str ⟨#[]⟩),qN,qN] [(0,1,(.k (.int .i64 4))),(1,1,(.sl 34))]),qm 36 10,qs 6 4 35,qm 5 36]
 .ret)) (qr [qm 38 6,qo 39 (.bin .eql (.sl 38) (.k (.int .u8 45))),qm 40 39,⟨(some (40,false)),(some 41),.mv (.sl 6)⟩,⟨(some (40,false)),(some 42),.call 173 [.sl 41] []⟩,qx 43 40 42,qm 37 43]
 (qd 37 (qr [qm 45 0,qt 46 221 45,qm 44 46,qo 47 (.ext (.sl 44) 0),qo 48 (.ext (.sl 44) 1),qm 11 47,qm 12 48]
 (qr [qm 49 11,qo 50 (.build [(.int .i64 0),(.int .i64 0),(.int .i64 0),(.str ⟨#[]⟩),qN,qN] [(0,1,(.k (.int .i64 2))),(1,1,(.sl 49))]),qm 51 12,qs 6 4 50,qm 5 51]
 .ret)) (qr [qm 53 6,qo 54 (.bin .eql (.sl 53) (.k (.int .u8 40))),qm 52 54]
 (qd 52 (qr [qm 55 0,qt 56 222 55,qo 57 (.ext (.sl 56) 0),qo 58 (.ext (.sl 56) 1),qs 6 4 57,qm 5 58]
 .ret) (qr [qm 60 6,qo 61 (.bin .eql (.sl 60) (.k (.int .u8 91))),qm 59 61]
 (qd 59 (qr [qm 62 0,qm 63 1,qu 64 223 62 63,qo 65 (.ext (.sl 64) 0),qo 66 (.ext (.sl 64) 1),qs 6 4 65,qm 5 66]
 .ret) (qr [qm 68 6,qo 69 (.bin .eql (.sl 68) (.k (.int .u8 123))),qm 67 69]
 (qd 67 (qr [qm 70 0,qm 71 1,qu 72 224 70 71,qo 73 (.ext (.sl 72) 0),qo 74 (.ext (.sl 72) 1),qs 6 4 73,qm 5 74]
 .ret) (qr [qm 76 6,qo 77 (.bin .eql (.sl 76) (.k (.int .u8 60))),qm 75 77]
 (qd 75 (qr [qm 78 0,qt 79 225 78,qo 80 (.ext (.sl 79) 0),qo 81 (.ext (.sl 79) 1),qs 6 4 80,qm 5 81]
 .ret) (qr [qm 83 0,qo 84 (.call 226 [(.sl 83),(.k (.str ⟨#[110,117,108,108]⟩))] []),qm 82 84]
 (qd 82 (qr [qo 85 (.build [(.int .i64 0),(.int .i64 0),(.int .i64 0),(.str ⟨#[]⟩),qN,qN] []),qs 6 4 85,qc 5 (.bool true)]
 .ret) (qr [qm 87 0,qo 88 (.call 226 [(.sl 87),(.k (.str ⟨#[116,114,117,101]⟩))] []),qm 86 88]
 (qd 86 (qr [qo 89 (.build [(.int .i64 0),(.int .i64 0),(.int .i64 0),(.str ⟨#[]⟩),qN,qN] [(0,1,(.k (.int .i64 1))),(1,1,(.k (.int .i64 1)))]),qs 6 4 89,qc 5 (.bool true)]
 .ret) (qr [qm 91 0,qo 92 (.call 226 [(.sl 91),(.k (.str ⟨#[102,97,108,115,101]⟩))] []),qm 90 92]
 (qd 90 (qr [qo 93 (.build [(.int .i64 0),(.int .i64 0),(.int .i64 0),(.str ⟨#[]⟩),qN,qN] [(0,1,(.k (.int .i64 1)))]),qs 6 4 93,qc 5 (.bool true)]
 .ret) (qr [qm 95 6,qo 96 (.bin .eql (.sl 95) (.k (.int .u8 110))),qm 97 96,⟨(some (97,false)),(some 98),.mv (.sl 6)⟩,⟨(some (97,false)),(some 99),.bin .eql (.sl 98) (.k (.int .u8 101))⟩,qx 100 97 99,qm 94 100]
 (qd 94 (qr [qm 101 0,qt 102 227 101,qo 103 (.ext (.sl 102) 0),qo 104 (.ext (.sl 102) 1),qs 6 4 103,qm 5 104]
 .ret) .skip))))))))))))))))))))))))
 (qr [qo 105 (.build [(.int .i64 0),(.int .i64 0),(.int .i64 0),(.str ⟨#[]⟩),qN,qN] []),qs 6 4 105,qc 5 (.bool false)]
 .ret))),[.cell 4 6 true,.tmp 5],false⟩
def F218:bp:=⟨22,1,(
 qr [qc 2 (.int .u8 0)]
 (.seq (qr [qm 3 0,qo 4 (.nck (.sl 3)),qf 5 1 4,ql 6 1 false 5,qm 7 0,qo 8 (.nck (.sl 7)),qf 9 0 8,ql 10 1 false 9,qo 11 (.slen (.sl 10)),qb 12 .lss 6 11]
 (qd 12 (qr [qm 13 0,qo 14 (.nck (.sl 13)),qf 15 0 14,ql 16 1 false 15,qm 17 0,qo 18 (.nck (.sl 17)),qf 19 1 18,ql 20 1 false 19,qo 21 (.sidx (.sl 16) (.sl 20)),qm 2 21]
 .ret) .skip))
 (qr [qc 2 (.int .u8 0)]
 .ret))),[.tmp 2],false⟩
def F219:bp:=⟨79,1,(
 qr [qc 2 (.str ⟨#[]⟩),qc 3 (.bool false)]
 (.seq (qr [qm 6 0,qo 7 (.call 226 [(.sl 6),(.k (.str ⟨#[34]⟩))] []),qo 8 (.un .not (.sl 7))]
 (qd 8 (qr [qc 2 (.str ⟨#[]⟩),qc 3 (.bool false)]
 .ret) .skip))
 (qr [qc 4 qN]
 (.seq (.block 0 (.loop (.seq (qr [qm 9 0,qo 10 (.nck (.sl 9)),qf 11 1 10,ql 12 1 false 11,qm 13 0,qo 14 (.nck (.sl 13)),qf 15 0 14,ql 16 1 false 15,qo 17 (.slen (.sl 16)),qb 18 .lss 12 17]
 (qd 18 .skip (.exit 0)))
 (.block 1 (qr [qm 19 0,qo 20 (.nck (.sl 19)),qf 21 0 20,ql 22 1 false 21,qm 23 0,qo 24 (.nck (.sl 23)),qf 25 1 24,ql 26 1 false 25,qo 27 (.sidx (.sl 22) (.sl 26)),qm 5 27]
 (qr [qm 28 0,qo 29 (.nck (.sl 28)),qf 30 1 29,ql 31 1 false 30,qk 32 .add 31 1,qo 33 (.nck (.sl 28)),qf 34 1 33,qs 1 34 32]
 (.block 2 (qr [qm 40 5,qo 41 (.bin .eql (.sl 40) (.k (.int .u8 34))),qm 39 41]
 (qd 39 (qr [qm 42 4,qo 43 (.b2s (.sl 42)),qm 2 43,qc 3 (.bool true)]
 .ret) (qr [qm 45 5,qo 46 (.bin .eql (.sl 45) (.k (.int .u8 92))),qm 44 46]
 (qd 44 (.seq (qr [qm 47 0,qt 48 218 47]
 (.block 3 (.seq (qr [qo 50 (.bin .eql (.sl 48) (.k (.int .u8 34))),qm 49 50]
 (qd 49 .skip (.reg [qo 51 (.bin .eql (.sl 48) (.k (.int .u8 92))),qm 49 51] [])))
 (qd 49 (.reg [qm 52 4,qm 53 0,qo 54 (.nck (.sl 53)),qf 55 0 54,ql 56 1 false 55,qm 57 0,qo 58 (.nck (.sl 57)),qf 59 1 58,ql 60 1 false 59,qo 61 (.sidx (.sl 56) (.sl 60)),qo 62 (.bsl 5 1 [(.int .u8 0)] 1 [(0,1,(.sl 61))]),qo 63 (.app 5 1 1 (.sl 52) (.sl 62)),qm 4 63] []) (qr [qo 65 (.bin .eql (.sl 48) (.k (.int .u8 110))),qm 64 65]
 (qd 64 (.reg [qm 66 4,qo 67 (.bsl 5 1 [(.int .u8 0)] 1 [(0,1,(.k (.int .u8 10)))]),qo 68 (.app 5 1 1 (.sl 66) (.sl 67)),qm 4 68] []) (qr [qc 2 (.str ⟨#[]⟩),qc 3 (.bool false)]
 .ret)))))))
 (.reg [qm 69 0,qo 70 (.nck (.sl 69)),qf 71 1 70,ql 72 1 false 71,qk 73 .add 72 1,qo 74 (.nck (.sl 69)),qf 75 1 74,qs 1 75 73] [])) (qr [qm 77 5,qo 78 (.bin .lss (.sl 77) (.k (.int .u8 32))),qm 76 78]
 (qd 76 (qr [qc 2 (.str ⟨#[]⟩),qc 3 (.bool false)]
 .ret) (.reg [qm 35 4,qm 36 5,qo 37 (.bsl 5 1 [(.int .u8 0)] 1 [(0,1,(.sl 36))]),qo 38 (.app 5 1 1 (.sl 35) (.sl 37)),qm 4 38] []))))))))))))))
 (qr [qc 2 (.str ⟨#[]⟩),qc 3 (.bool false)]
 .ret))))),[.tmp 2,.tmp 3],false⟩
def F220:bp:=⟨117,1,(
 qr [qi 2 0,qc 3 (.bool false)]
 (.seq (qr [qm 9 0,qo 10 (.nck (.sl 9)),qf 11 0 10,ql 12 1 false 11,qo 13 (.slen (.sl 12)),qm 14 0,qo 15 (.nck (.sl 14)),qf 16 1 15,ql 17 1 false 16,qb 18 .sub 13 17,qk 19 .lss 18 11,qm 20 19,⟨(some (20,false)),(some 21),.mv (.sl 0)⟩,⟨(some (20,false)),(some 22),.nck (.sl 21)⟩,⟨(some (20,false)),(some 23),.fad 0 (.sl 22)⟩,⟨(some (20,false)),(some 24),.load 1 false (.sl 23)⟩,⟨(some (20,false)),(some 25),.mv (.sl 0)⟩,⟨(some (20,false)),(some 26),.nck (.sl 25)⟩,⟨(some (20,false)),(some 27),.fad 1 (.sl 26)⟩,⟨(some (20,false)),(some 28),.load 1 false (.sl 27)⟩,⟨(some (20,false)),(some 29),.sidx (.sl 24) (.sl 28)⟩,⟨(some (20,false)),(some 30),.bin .neq (.sl 29) (.k (.int .u8 64))⟩,qx 31 20 30,qm 32 31,⟨(some (32,false)),(some 33),.mv (.sl 0)⟩,⟨(some (32,false)),(some 34),.nck (.sl 33)⟩,⟨(some (32,false)),(some 35),.fad 0 (.sl 34)⟩,⟨(some (32,false)),(some 36),.load 1 false (.sl 35)⟩,⟨(some (32,false)),(some 37),.mv (.sl 0)⟩,⟨(some (32,false)),(some 38),.nck (.sl 37)⟩,⟨(some (32,false)),(some 39),.fad 1 (.sl 38)⟩,⟨(some (32,false)),(some 40),.load 1 false (.sl 39)⟩,⟨(some (32,false)),(some 41),.bin .add (.sl 40) (.k (.int .i64 5))⟩,⟨(some (32,false)),(some 42),.sidx (.sl 36) (.sl 41)⟩,⟨(some (32,false)),(some 43),.bin .neq (.sl 42) (.k (.int .u8 45))⟩,qx 44 32 43,qm 45 44,⟨(some (45,false)),(some 46),.mv (.sl 0)⟩,⟨(some (45,false)),(some 47),.nck (.sl 46)⟩,⟨(some (45,false)),(some 48),.fad 0 (.sl 47)⟩,⟨(some (45,false)),(some 49),.load 1 false (.sl 48)⟩,⟨(some (45,false)),(some 50),.mv (.sl 0)⟩,⟨(some (45,false)),(some 51),.nck (.sl 50)⟩,⟨(some (45,false)),(some 52),.fad 1 (.sl 51)⟩,⟨(some (45,false)),(some 53),.load 1 false (.sl 52)⟩,⟨(some (45,false)),(some 54),.bin .add (.sl 53) (.k (.int .i64 8))⟩,⟨(some (45,false)),(some 55),.sidx (.sl 49) (.sl 54)⟩,⟨(some (45,false)),(some 56),.bin .neq (.sl 55) (.k (.int .u8 45))⟩,qx 57 45 56]
 (qd 57 (qr [qi 2 0,qc 3 (.bool false)]
 .ret) .skip))
 (qr [qm 58 0,qo 59 (.nck (.sl 58)),qf 60 0 59,ql 61 1 false 60,qm 62 0,qo 63 (.nck (.sl 62)),qf 64 1 63,ql 65 1 false 64,qk 66 .add 65 1,qm 67 0,qo 68 (.nck (.sl 67)),qf 69 1 68,ql 70 1 false 69,qk 71 .add 70 11,qo 72 (.ssl (.sl 61) (some (.sl 66)) (some (.sl 71))),qm 4 72]
 (qr [qm 73 0,qo 74 (.nck (.sl 73)),qf 75 1 74,ql 76 1 false 75,qk 77 .add 76 11,qo 78 (.nck (.sl 73)),qf 79 1 78,qs 1 79 77]
 (qr [qc 5 (.fn 236 [])]
 (qr [qm 80 5,qm 81 4,qo 82 (.ssl (.sl 81) none (some (.k (.int .i64 4)))),qo 83 (.cval (.sl 80) [.sl 82]),qm 84 5,qm 85 4,qo 86 (.ssl (.sl 85) (some (.k (.int .i64 5))) (some (.k (.int .i64 7)))),qo 87 (.cval (.sl 84) [.sl 86]),qm 88 5,qm 89 4,qo 90 (.ssl (.sl 89) (some (.k (.int .i64 8))) none),qo 91 (.cval (.sl 88) [.sl 90]),qm 6 83,qm 7 87,qm 8 91]
 (.seq (qr [qm 92 6,qk 93 .lss 92 1,qm 94 93,⟨(some (94,false)),(some 95),.mv (.sl 7)⟩,⟨(some (94,false)),(some 96),.bin .lss (.sl 95) (.k (.int .i64 1))⟩,qx 97 94 96,qm 98 97,⟨(some (98,false)),(some 99),.mv (.sl 7)⟩,⟨(some (98,false)),(some 100),.bin .gtr (.sl 99) (.k (.int .i64 12))⟩,qx 101 98 100,qm 102 101,⟨(some (102,false)),(some 103),.mv (.sl 8)⟩,⟨(some (102,false)),(some 104),.bin .lss (.sl 103) (.k (.int .i64 1))⟩,qx 105 102 104,qm 106 105,⟨(some (106,false)),(some 107),.mv (.sl 8)⟩,⟨(some (106,false)),(some 108),.mv (.sl 6)⟩,⟨(some (106,false)),(some 109),.mv (.sl 7)⟩,⟨(some (106,false)),(some 110),.call 237 [(.sl 108),(.sl 109)] []⟩,⟨(some (106,false)),(some 111),.bin .gtr (.sl 107) (.sl 110)⟩,qx 112 106 111]
 (qd 112 (qr [qi 2 0,qc 3 (.bool false)]
 .ret) .skip))
 (qr [qm 113 6,qm 114 7,qm 115 8,qo 116 (.call 238 [(.sl 113),(.sl 114),(.sl 115)] []),qm 2 116,qc 3 (.bool true)]
 .ret)))))))),[.tmp 2,.tmp 3],false⟩
def F221:bp:=⟨75,1,(
 qr [qi 2 0,qc 3 (.bool false)]
 (qr [qm 8 0,qo 9 (.nck (.sl 8)),qf 10 1 9,ql 11 1 false 10,qm 4 11]
 (.seq (qr [qm 12 0,qt 13 218 12,qo 14 (.bin .eql (.sl 13) (.k (.int .u8 45)))]
 (qd 14 (.reg [qm 15 0,qo 16 (.nck (.sl 15)),qf 17 1 16,ql 18 1 false 17,qk 19 .add 18 1,qo 20 (.nck (.sl 15)),qf 21 1 20,qs 1 21 19] []) .skip))
 (.seq (.block 0 (.loop (.seq (qr [qm 22 0,qo 23 (.nck (.sl 22)),qf 24 1 23,ql 25 1 false 24,qm 26 0,qo 27 (.nck (.sl 26)),qf 28 0 27,ql 29 1 false 28,qo 30 (.slen (.sl 29)),qb 31 .lss 25 30,qm 32 31,⟨(some (32,true)),(some 33),.mv (.sl 0)⟩,⟨(some (32,true)),(some 34),.nck (.sl 33)⟩,⟨(some (32,true)),(some 35),.fad 0 (.sl 34)⟩,⟨(some (32,true)),(some 36),.load 1 false (.sl 35)⟩,⟨(some (32,true)),(some 37),.mv (.sl 0)⟩,⟨(some (32,true)),(some 38),.nck (.sl 37)⟩,⟨(some (32,true)),(some 39),.fad 1 (.sl 38)⟩,⟨(some (32,true)),(some 40),.load 1 false (.sl 39)⟩,⟨(some (32,true)),(some 41),.sidx (.sl 36) (.sl 40)⟩,⟨(some (32,true)),(some 42),.call 173 [.sl 41] []⟩,qy 43 32 42]
 (qd 43 .skip (.exit 0)))
 (.block 1 (.reg [qm 44 0,qo 45 (.nck (.sl 44)),qf 46 1 45,ql 47 1 false 46,qk 48 .add 47 1,qo 49 (.nck (.sl 44)),qf 50 1 49,qs 1 50 48] [])))))
 (qr [qm 51 0,qo 52 (.nck (.sl 51)),qf 53 0 52,ql 54 1 false 53,qm 55 4,qm 56 0,qo 57 (.nck (.sl 56)),qf 58 1 57,ql 59 1 false 58,qo 60 (.ssl (.sl 54) (some (.sl 55)) (some (.sl 59))),qm 5 60]
 (qr [qm 62 5,qo 63 (.call 239 [(.sl 62),(.k (.int .i64 10)),(.k (.int .i64 64))] []),qm 61 63,qo 64 (.ext (.sl 61) 0),qo 65 (.ext (.sl 61) 1),qm 6 64,qm 7 65]
 (.seq (qr [qm 66 7,qo 67 (.isnil true (.sl 66)),qm 68 67,⟨(some (68,false)),(some 69),.mv (.sl 6)⟩,⟨(some (68,false)),(some 70),.call 135 [(.sl 69),(.k (.int .i64 10))] []⟩,⟨(some (68,false)),(some 71),.mv (.sl 5)⟩,⟨(some (68,false)),(some 72),.bin .neq (.sl 70) (.sl 71)⟩,qx 73 68 72]
 (qd 73 (qr [qi 2 0,qc 3 (.bool false)]
 .ret) .skip))
 (qr [qm 74 6,qm 2 74,qc 3 (.bool true)]
 .ret)))))))),[.tmp 2,.tmp 3],false⟩
def F222:bp:=⟨59,1,(
 qr [qo 2 (.alloc [(.int .i64 0),(.int .i64 0),(.int .i64 0),(.str ⟨#[]⟩),qN,qN]),qc 3 (.bool false)]
 (.seq (qr [qm 9 0,qo 10 (.call 226 [(.sl 9),(.k (.str ⟨#[40]⟩))] []),qo 11 (.un .not (.sl 10))]
 (qd 11 (qr [qo 12 (.build [(.int .i64 0),(.int .i64 0),(.int .i64 0),(.str ⟨#[]⟩),qN,qN] []),qs 6 2 12,qc 3 (.bool false)]
 .ret) .skip))
 (qr [qm 14 0,qt 15 221 14,qm 13 15,qo 16 (.ext (.sl 13) 0),qo 17 (.ext (.sl 13) 1),qm 4 16,qm 5 17]
 (qr [qm 18 0,qo 19 (.call 226 [(.sl 18),(.k (.str ⟨#[32]⟩))] []),qm 6 19]
 (.seq (qr [qm 20 5,qo 21 (.un .not (.sl 20)),qm 22 21,⟨(some (22,false)),(some 23),.mv (.sl 6)⟩,⟨(some (22,false)),(some 24),.un .not (.sl 23)⟩,qx 25 22 24]
 (qd 25 (qr [qo 26 (.build [(.int .i64 0),(.int .i64 0),(.int .i64 0),(.str ⟨#[]⟩),qN,qN] []),qs 6 2 26,qc 3 (.bool false)]
 .ret) .skip))
 (qr [qm 28 0,qt 29 221 28,qm 27 29,qo 30 (.ext (.sl 27) 0),qo 31 (.ext (.sl 27) 1),qm 7 30,qm 8 31]
 (.seq (qr [qm 32 8,qo 33 (.un .not (.sl 32)),qm 34 33,⟨(some (34,false)),(some 35),.mv (.sl 0)⟩,⟨(some (34,false)),(some 36),.call 226 [(.sl 35),(.k (.str ⟨#[41]⟩))] []⟩,⟨(some (34,false)),(some 37),.un .not (.sl 36)⟩,qx 38 34 37,qm 39 38,⟨(some (39,false)),(some 40),.mv (.sl 4)⟩,⟨(some (39,false)),(some 41),.bin .lss (.sl 40) (.k (.int .i64 (-1000000)))⟩,qx 42 39 41,qm 43 42,⟨(some (43,false)),(some 44),.mv (.sl 4)⟩,⟨(some (43,false)),(some 45),.bin .gtr (.sl 44) (.k (.int .i64 1000000))⟩,qx 46 43 45,qm 47 46,⟨(some (47,false)),(some 48),.mv (.sl 7)⟩,⟨(some (47,false)),(some 49),.bin .lss (.sl 48) (.k (.int .i64 (-1000000)))⟩,qx 50 47 49,qm 51 50,⟨(some (51,false)),(some 52),.mv (.sl 7)⟩,⟨(some (51,false)),(some 53),.bin .gtr (.sl 52) (.k (.int .i64 1000000))⟩,qx 54 51 53]
 (qd 54 (qr [qo 55 (.build [(.int .i64 0),(.int .i64 0),(.int .i64 0),(.str ⟨#[]⟩),qN,qN] []),qs 6 2 55,qc 3 (.bool false)]
 .ret) .skip))
 (qr [qm 56 4,qm 57 7,qo 58 (.build [(.int .i64 0),(.int .i64 0),(.int .i64 0),(.str ⟨#[]⟩),qN,qN] [(0,1,(.k (.int .i64 5))),(1,1,(.sl 56)),(2,1,(.sl 57))]),qs 6 2 58,qc 3 (.bool true)]
 .ret)))))))),[.cell 2 6 true,.tmp 3],false⟩
def F223:bp:=⟨44,1,(
 qr [qo 4 (.alloc [(.int .i64 0),(.int .i64 0),(.int .i64 0),(.str ⟨#[]⟩),qN,qN]),qc 5 (.bool false)]
 (qr [qo 9 (.build [(.int .i64 0),(.int .i64 0),(.int .i64 0),(.str ⟨#[]⟩),qN,qN] [(0,1,(.k (.int .i64 6)))]),qo 6 (.alloc [(.int .i64 0),(.int .i64 0),(.int .i64 0),(.str ⟨#[]⟩),qN,qN]),qs 6 6 9]
 (.seq (qr [qm 10 0,qo 11 (.call 226 [(.sl 10),(.k (.str ⟨#[91]⟩))] []),qo 12 (.un .not (.sl 11)),qm 13 12,⟨(some (13,false)),(some 14),.mv (.sl 1)⟩,⟨(some (13,false)),(some 15),.bin .eql (.sl 14) (.k (.int .i64 5))⟩,qx 16 13 15]
 (qd 16 (qr [ql 17 6 true 6,qs 6 4 17,qc 5 (.bool false)]
 .ret) .skip))
 (.seq (qr [qm 18 0,qo 19 (.call 226 [(.sl 18),(.k (.str ⟨#[93]⟩))] [])]
 (qd 19 (qr [ql 20 6 true 6,qs 6 4 20,qc 5 (.bool true)]
 .ret) .skip))
 (.block 0 (.loop (.block 1 (qr [qm 22 0,qm 23 1,qk 24 .add 23 1,qu 25 201 22 24,qm 21 25,qo 26 (.ext (.sl 21) 0),qo 27 (.ext (.sl 21) 1),qo 7 (.alloc [(.int .i64 0),(.int .i64 0),(.int .i64 0),(.str ⟨#[]⟩),qN,qN]),qs 6 7 26,qm 8 27]
 (.seq (qr [qm 28 8,qo 29 (.un .not (.sl 28))]
 (qd 29 (qr [ql 30 6 true 6,qs 6 4 30,qc 5 (.bool false)]
 .ret) .skip))
 (qr [qf 31 5 6,ql 32 1 false 31,ql 33 6 true 7,qo 34 (.bsl 204 6 [(.int .i64 0),(.int .i64 0),(.int .i64 0),(.str ⟨#[]⟩),qN,qN] 1 [(0,6,(.sl 33))]),qo 35 (.app 204 6 88 (.sl 32) (.sl 34)),qf 36 5 6,qs 1 36 35]
 (.seq (qr [qm 37 0,qo 38 (.call 226 [(.sl 37),(.k (.str ⟨#[93]⟩))] [])]
 (qd 38 (qr [ql 39 6 true 6,qs 6 4 39,qc 5 (.bool true)]
 .ret) .skip))
 (qr [qm 40 0,qo 41 (.call 226 [(.sl 40),(.k (.str ⟨#[44]⟩))] []),qo 42 (.un .not (.sl 41))]
 (qd 42 (qr [ql 43 6 true 6,qs 6 4 43,qc 5 (.bool false)]
 .ret) .skip))))))))))))),[.cell 4 6 true,.tmp 5],false⟩
def F224:bp:=⟨82,1,(
 qr [qo 4 (.alloc [(.int .i64 0),(.int .i64 0),(.int .i64 0),(.str ⟨#[]⟩),qN,qN]),qc 5 (.bool false)]
 (qr [qo 10 (.build [(.int .i64 0),(.int .i64 0),(.int .i64 0),(.str ⟨#[]⟩),qN,qN] [(0,1,(.k (.int .i64 7)))]),qo 6 (.alloc [(.int .i64 0),(.int .i64 0),(.int .i64 0),(.str ⟨#[]⟩),qN,qN]),qs 6 6 10]
 (.seq (qr [qm 11 0,qo 12 (.call 226 [(.sl 11),(.k (.str ⟨#[123]⟩))] []),qo 13 (.un .not (.sl 12)),qm 14 13,⟨(some (14,false)),(some 15),.mv (.sl 1)⟩,⟨(some (14,false)),(some 16),.bin .eql (.sl 15) (.k (.int .i64 5))⟩,qx 17 14 16]
 (qd 17 (qr [ql 18 6 true 6,qs 6 4 18,qc 5 (.bool false)]
 .ret) .skip))
 (.seq (qr [qm 19 0,qo 20 (.call 226 [(.sl 19),(.k (.str ⟨#[125]⟩))] [])]
 (qd 20 (qr [ql 21 6 true 6,qs 6 4 21,qc 5 (.bool true)]
 .ret) .skip))
 (.block 0 (.loop (.block 1 (qr [qm 23 0,qt 24 240 23,qm 22 24,qo 25 (.ext (.sl 22) 0),qo 26 (.ext (.sl 22) 1),qm 7 25,qm 8 26]
 (.seq (qr [qm 27 8,qo 28 (.un .not (.sl 27)),qm 29 28,⟨(some (29,false)),(some 30),.mv (.sl 0)⟩,⟨(some (29,false)),(some 31),.call 226 [(.sl 30),(.k (.str ⟨#[58]⟩))] []⟩,⟨(some (29,false)),(some 32),.un .not (.sl 31)⟩,qx 33 29 32,qm 34 33,⟨(some (34,false)),(some 35),.fad 4 (.sl 6)⟩,⟨(some (34,false)),(some 36),.load 1 false (.sl 35)⟩,⟨(some (34,false)),(some 37),.len (.sl 36)⟩,⟨(some (34,false)),(some 38),.bin .gtr (.sl 37) (.k (.int .i64 0))⟩,⟨(some (34,false)),(some 39),.mv (.sl 38)⟩,⟨(some (39,true)),(some 40),.fad 4 (.sl 6)⟩,⟨(some (39,true)),(some 41),.load 1 false (.sl 40)⟩,⟨(some (39,true)),(some 42),.fad 4 (.sl 6)⟩,⟨(some (39,true)),(some 43),.load 1 false (.sl 42)⟩,⟨(some (39,true)),(some 44),.len (.sl 43)⟩,⟨(some (39,true)),(some 45),.bin .sub (.sl 44) (.k (.int .i64 1))⟩,⟨(some (39,true)),(some 46),.iad 1 (.sl 41) (.sl 45)⟩,⟨(some (39,true)),(some 47),.load 1 false (.sl 46)⟩,⟨(some (39,true)),(some 48),.mv (.sl 7)⟩,⟨(some (39,true)),(some 49),.bin .geq (.sl 47) (.sl 48)⟩,⟨(some (34,false)),(some 50),.pick (.sl 39) (.sl 49) (.k (.bool false))⟩,qx 51 34 50]
 (qd 51 (qr [ql 52 6 true 6,qs 6 4 52,qc 5 (.bool false)]
 .ret) .skip))
 (qr [qm 54 0,qm 55 1,qk 56 .add 55 1,qu 57 201 54 56,qm 53 57,qo 58 (.ext (.sl 53) 0),qo 59 (.ext (.sl 53) 1),qo 9 (.alloc [(.int .i64 0),(.int .i64 0),(.int .i64 0),(.str ⟨#[]⟩),qN,qN]),qs 6 9 58,qm 8 59]
 (.seq (qr [qm 60 8,qo 61 (.un .not (.sl 60))]
 (qd 61 (qr [ql 62 6 true 6,qs 6 4 62,qc 5 (.bool false)]
 .ret) .skip))
 (qr [qf 63 4 6,ql 64 1 false 63,qm 65 7,qo 66 (.bsl 9 1 [(.str ⟨#[]⟩)] 1 [(0,1,(.sl 65))]),qo 67 (.app 9 1 16 (.sl 64) (.sl 66)),qf 68 4 6,qs 1 68 67]
 (qr [qf 69 5 6,ql 70 1 false 69,ql 71 6 true 9,qo 72 (.bsl 204 6 [(.int .i64 0),(.int .i64 0),(.int .i64 0),(.str ⟨#[]⟩),qN,qN] 1 [(0,6,(.sl 71))]),qo 73 (.app 204 6 88 (.sl 70) (.sl 72)),qf 74 5 6,qs 1 74 73]
 (.seq (qr [qm 75 0,qo 76 (.call 226 [(.sl 75),(.k (.str ⟨#[125]⟩))] [])]
 (qd 76 (qr [ql 77 6 true 6,qs 6 4 77,qc 5 (.bool true)]
 .ret) .skip))
 (qr [qm 78 0,qo 79 (.call 226 [(.sl 78),(.k (.str ⟨#[44]⟩))] []),qo 80 (.un .not (.sl 79))]
 (qd 80 (qr [ql 81 6 true 6,qs 6 4 81,qc 5 (.bool false)]
 .ret) .skip)))))))))))))))),[.cell 4 6 true,.tmp 5],false⟩
def F225:bp:=⟨46,1,(
 qr [qo 2 (.alloc [(.int .i64 0),(.int .i64 0),(.int .i64 0),(.str ⟨#[]⟩),qN,qN]),qc 3 (.bool false)]
 (qr [qo 8 (.build [(.int .i64 0),(.int .i64 0),(.int .i64 0),(.str ⟨#[]⟩),qN,qN] [(0,1,(.k (.int .i64 10)))]),qo 4 (.alloc [(.int .i64 0),(.int .i64 0),(.int .i64 0),(.str ⟨#[]⟩),qN,qN]),qs 6 4 8]
 (.seq (qr [qm 9 0,qo 10 (.call 226 [(.sl 9),(.k (.str ⟨#[60]⟩))] []),qo 11 (.un .not (.sl 10))]
 (qd 11 (qr [ql 12 6 true 4,qs 6 2 12,qc 3 (.bool false)]
 .ret) .skip))
 (qr [qi 5 8]
 (.block 0 (.loop (.block 1 (qr [qm 14 0,qt 15 227 14,qm 13 15,qo 16 (.ext (.sl 13) 0),qo 17 (.ext (.sl 13) 1),qo 6 (.alloc [(.int .i64 0),(.int .i64 0),(.int .i64 0),(.str ⟨#[]⟩),qN,qN]),qs 6 6 16,qm 7 17]
 (.seq (qr [qm 18 7,qo 19 (.un .not (.sl 18)),qm 20 19,⟨(some (20,false)),(some 21),.fad 0 (.sl 6)⟩,⟨(some (20,false)),(some 22),.load 1 false (.sl 21)⟩,⟨(some (20,false)),(some 23),.mv (.sl 5)⟩,⟨(some (20,false)),(some 24),.bin .neq (.sl 22) (.sl 23)⟩,qx 25 20 24]
 (qd 25 (qr [ql 26 6 true 4,qs 6 2 26,qc 3 (.bool false)]
 .ret) .skip))
 (qr [qf 27 5 4,ql 28 1 false 27,ql 29 6 true 6,qo 30 (.bsl 204 6 [(.int .i64 0),(.int .i64 0),(.int .i64 0),(.str ⟨#[]⟩),qN,qN] 1 [(0,6,(.sl 29))]),qo 31 (.app 204 6 88 (.sl 28) (.sl 30)),qf 32 5 4,qs 1 32 31]
 (.seq (qr [qm 33 5,qk 34 .eql 33 8,qm 35 34,⟨(some (35,true)),(some 36),.mv (.sl 0)⟩,⟨(some (35,true)),(some 37),.call 226 [(.sl 36),(.k (.str ⟨#[62]⟩))] []⟩,qy 38 35 37]
 (qd 38 (qr [ql 39 6 true 4,qs 6 2 39,qc 3 (.bool true)]
 .ret) .skip))
 (.seq (qr [qm 40 0,qo 41 (.call 226 [(.sl 40),(.k (.str ⟨#[32]⟩))] []),qo 42 (.un .not (.sl 41))]
 (qd 42 (qr [ql 43 6 true 4,qs 6 2 43,qc 3 (.bool false)]
 .ret) .skip))
 (.reg [qm 44 5,qo 45 (.bin .sub (.k (.int .i64 17)) (.sl 44)),qm 5 45] []))))))))))))),[.cell 2 6 true,.tmp 3],false⟩
def F226:bp:=⟨25,1,(
 qr [qc 4 (.bool false)]
 (.seq (qr [qm 5 0,qo 6 (.nck (.sl 5)),qf 7 0 6,ql 8 1 false 7,qm 9 0,qo 10 (.nck (.sl 9)),qf 11 1 10,ql 12 1 false 11,qo 13 (.ssl (.sl 8) (some (.sl 12)) none),qm 14 1,qu 15 241 13 14]
 (qd 15 (qr [qm 16 0,qo 17 (.nck (.sl 16)),qf 18 1 17,ql 19 1 false 18,qm 20 1,qo 21 (.slen (.sl 20)),qb 22 .add 19 21,qo 23 (.nck (.sl 16)),qf 24 1 23,qs 1 24 22]
 (qr [qc 4 (.bool true)]
 .ret)) .skip))
 (qr [qc 4 (.bool false)]
 .ret))),[.tmp 4],false⟩
def F227:bp:=⟨30,1,(
 qr [qo 2 (.alloc [(.int .i64 0),(.int .i64 0),(.int .i64 0),(.str ⟨#[]⟩),qN,qN]),qc 3 (.bool false)]
 (qr [qi 4 8]
 (.seq (qr [qm 7 0,qt 8 218 7,qo 9 (.bin .eql (.sl 8) (.k (.int .u8 101)))]
 (qd 9 (.reg [qi 4 9] []) (qr [qm 10 0,qt 11 218 10,qo 12 (.bin .neq (.sl 11) (.k (.int .u8 110)))]
 (qd 12 (qr [qo 13 (.build [(.int .i64 0),(.int .i64 0),(.int .i64 0),(.str ⟨#[]⟩),qN,qN] []),qs 6 2 13,qc 3 (.bool false)]
 .ret) .skip))))
 (qr [qm 14 0,qo 15 (.nck (.sl 14)),qf 16 1 15,ql 17 1 false 16,qk 18 .add 17 1,qo 19 (.nck (.sl 14)),qf 20 1 19,qs 1 20 18]
 (qr [qm 22 0,qt 23 242 22,qm 21 23,qo 24 (.ext (.sl 21) 0),qo 25 (.ext (.sl 21) 1),qm 5 24,qm 6 25]
 (qr [qm 26 4,qm 27 5,qo 28 (.build [(.int .i64 0),(.int .i64 0),(.int .i64 0),(.str ⟨#[]⟩),qN,qN] [(0,1,(.sl 26)),(1,1,(.sl 27))]),qm 29 6,qs 6 2 28,qm 3 29]
 .ret)))))),[.cell 2 6 true,.tmp 3],false⟩
def F236:bp:=⟨25,0,(
 qr [qi 2 0]
 (qr [qi 3 0]
 (.seq (qr [qm 5 0,qo 6 (.slen (.sl 5)),qi 7 0]
 (.block 0 (.loop (qr [qb 8 .lss 7 6]
 (.seq (qd 8 .skip (.exit 0))
 (.seq (.block 1 (qr [qm 9 7,qm 4 9]
 (qg [qm 10 0,qm 11 4,qo 12 (.sidx (.sl 10) (.sl 11)),qt 13 173 12,qo 14 (.un .not (.sl 13))] 14 (qi 2 (-1))
 (.reg [qm 15 3,qk 16 .mul 15 10,qm 17 0,qm 18 4,qo 19 (.sidx (.sl 17) (.sl 18)),qo 20 (.bin .sub (.sl 19) (.k (.int .u8 48))),qo 21 (.toInt .i64 (.sl 20)),qb 22 .add 16 21,qm 3 22] []))))
 (.reg [qk 23 .add 7 1,qm 7 23] [])))))))
 (qr [qm 24 3,qm 2 24]
 .ret)))),[.tmp 2],false⟩
def F237:bp:=⟨15,0,(
 qr [qi 4 0]
 (.seq (qr [qm 5 1]
 (.block 0 (qr [qk 7 .eql 5 2,qm 6 7]
 (qd 6 (qg [qm 8 0,qt 9 245 8] 9 (qi 4 29)
 (qr [qi 4 28]
 .ret)) (.seq (qr [qk 11 .eql 5 4,qm 10 11]
 (qd 10 .skip (qr [qk 12 .eql 5 6,qm 10 12]
 (qd 10 .skip (qr [qk 13 .eql 5 9,qm 10 13]
 (qd 10 .skip (.reg [qk 14 .eql 5 11,qm 10 14] [])))))))
 (qd 10 (qr [qi 4 30]
 .ret) .skip))))))
 (qr [qi 4 31]
 .ret))),[.tmp 4],false⟩
def F238:bp:=⟨37,0,(
 qr [qi 6 0]
 (qr [qm 10 0,qk 11 .sub 10 1,qm 7 11]
 (qr [qm 12 7,qk 13 .mul 12 365,qm 14 7,qk 15 .quo 14 4,qb 16 .add 13 15,qm 17 7,qk 18 .quo 17 100,qb 19 .sub 16 18,qm 20 7,qk 21 .quo 20 400,qb 22 .add 19 21,qm 8 22]
 (.seq (qr [qi 9 1]
 (.block 0 (.loop (.seq (qr [qm 23 9,qm 24 1,qb 25 .lss 23 24]
 (qd 25 .skip (.exit 0)))
 (.seq (.block 1 (.reg [qm 28 8,qm 29 0,qm 30 9,qu 31 237 29 30,qb 32 .add 28 31,qm 8 32] []))
 (.reg [qm 26 9,qk 27 .add 26 1,qm 9 27] []))))))
 (qr [qm 33 8,qm 34 2,qb 35 .add 33 34,qk 36 .sub 35 1,qm 6 36]
 .ret))))),[.tmp 6],false⟩
def F240:bp:=⟨83,1,(
 qr [qc 2 (.str ⟨#[]⟩),qc 3 (.bool false)]
 (qr [qm 5 0,qo 6 (.nck (.sl 5)),qf 7 1 6,ql 8 1 false 7,qm 4 8]
 (.seq (.block 0 (.loop (.seq (qr [qm 9 0,qo 10 (.nck (.sl 9)),qf 11 1 10,ql 12 1 false 11,qm 13 0,qo 14 (.nck (.sl 13)),qf 15 0 14,ql 16 1 false 15,qo 17 (.slen (.sl 16)),qb 18 .lss 12 17,qm 19 18,⟨(some (19,true)),(some 20),.mv (.sl 0)⟩,⟨(some (19,true)),(some 21),.nck (.sl 20)⟩,⟨(some (19,true)),(some 22),.fad 0 (.sl 21)⟩,⟨(some (19,true)),(some 23),.load 1 false (.sl 22)⟩,⟨(some (19,true)),(some 24),.mv (.sl 0)⟩,⟨(some (19,true)),(some 25),.nck (.sl 24)⟩,⟨(some (19,true)),(some 26),.fad 1 (.sl 25)⟩,⟨(some (19,true)),(some 27),.load 1 false (.sl 26)⟩,⟨(some (19,true)),(some 28),.sidx (.sl 23) (.sl 27)⟩,⟨(some (19,true)),(some 29),.call 172 [.sl 28] []⟩,⟨(some (19,true)),(some 30),.mv (.sl 29)⟩,⟨(some (30,false)),(some 31),.mv (.sl 0)⟩,⟨(some (30,false)),(some 32),.nck (.sl 31)⟩,⟨(some (30,false)),(some 33),.fad 0 (.sl 32)⟩,⟨(some (30,false)),(some 34),.load 1 false (.sl 33)⟩,⟨(some (30,false)),(some 35),.mv (.sl 0)⟩,⟨(some (30,false)),(some 36),.nck (.sl 35)⟩,⟨(some (30,false)),(some 37),.fad 1 (.sl 36)⟩,⟨(some (30,false)),(some 38),.load 1 false (.sl 37)⟩,⟨(some (30,false)),(some 39),.sidx (.sl 34) (.sl 38)⟩,⟨(some (30,false)),(some 40),.call 173 [.sl 39] []⟩,⟨(some (19,true)),(some 41),.pick (.sl 30) (.k (.bool true)) (.sl 40)⟩,⟨(some (19,true)),(some 42),.mv (.sl 41)⟩,⟨(some (42,false)),(some 43),.mv (.sl 0)⟩,⟨(some (42,false)),(some 44),.nck (.sl 43)⟩,⟨(some (42,false)),(some 45),.fad 0 (.sl 44)⟩,⟨(some (42,false)),(some 46),.load 1 false (.sl 45)⟩,⟨(some (42,false)),(some 47),.mv (.sl 0)⟩,⟨(some (42,false)),(some 48),.nck (.sl 47)⟩,⟨(some (42,false)),(some 49),.fad 1 (.sl 48)⟩,⟨(some (42,false)),(some 50),.load 1 false (.sl 49)⟩,⟨(some (42,false)),(some 51),.sidx (.sl 46) (.sl 50)⟩,⟨(some (42,false)),(some 52),.bin .eql (.sl 51) (.k (.int .u8 95))⟩,⟨(some (19,true)),(some 53),.pick (.sl 42) (.k (.bool true)) (.sl 52)⟩,qy 54 19 53]
 (qd 54 .skip (.exit 0)))
 (.block 1 (.reg [qm 55 0,qo 56 (.nck (.sl 55)),qf 57 1 56,ql 58 1 false 57,qk 59 .add 58 1,qo 60 (.nck (.sl 55)),qf 61 1 60,qs 1 61 59] [])))))
 (.seq (.reg [qm 62 0,qo 63 (.nck (.sl 62)),qf 64 0 63,ql 65 1 false 64,qm 66 4,qm 67 0,qo 68 (.nck (.sl 67)),qf 69 1 68,ql 70 1 false 69,qo 71 (.ssl (.sl 65) (some (.sl 66)) (some (.sl 70))),qm 72 0,qo 73 (.nck (.sl 72)),qf 74 0 73,ql 75 1 false 74,qm 76 4,qm 77 0,qo 78 (.nck (.sl 77)),qf 79 1 78,ql 80 1 false 79,qo 81 (.ssl (.sl 75) (some (.sl 76)) (some (.sl 80))),qt 82 127 81,qm 2 71,qm 3 82] [(3,20),(8,20)])
 .ret)))),[.tmp 2,.tmp 3],false⟩
def F241:bp:=⟨8,0,(
 qr [qc 4 (.bool false)]
 (qr [qm 5 0,qm 6 1,qu 7 248 5 6,qm 4 7]
 .ret)),[.tmp 4],false⟩
def F242:bp:=⟨25,1,(
 qr [qi 2 0,qc 3 (.bool false)]
 (.seq (qr [qm 6 0,qt 7 218 6,qt 8 173 7,qo 9 (.un .not (.sl 8))]
 (qd 9 (qr [qi 2 0,qc 3 (.bool false)]
 .ret) .skip))
 (qr [qm 11 0,qt 12 221 11,qm 10 12,qo 13 (.ext (.sl 10) 0),qo 14 (.ext (.sl 10) 1),qm 4 13,qm 5 14]
 (qr [qm 15 4,qm 16 5,qm 17 16,⟨(some (17,true)),(some 18),.mv (.sl 4)⟩,⟨(some (17,true)),(some 19),.bin .geq (.sl 18) (.k (.int .i64 1))⟩,qy 20 17 19,qm 21 20,⟨(some (21,true)),(some 22),.mv (.sl 4)⟩,⟨(some (21,true)),(some 23),.bin .leq (.sl 22) (.k (.int .i64 1000000000000))⟩,qy 24 21 23,qm 2 15,qm 3 24]
 .ret)))),[.tmp 2,.tmp 3],false⟩
def F245:bp:=⟨16,0,(
 qr [qc 2 (.bool false)]
 (qr [qm 3 0,qk 4 .rem 3 4,qk 5 .eql 4 0,qm 6 5,⟨(some (6,true)),(some 7),.mv (.sl 0)⟩,⟨(some (6,true)),(some 8),.bin .rem (.sl 7) (.k (.int .i64 100))⟩,⟨(some (6,true)),(some 9),.bin .neq (.sl 8) (.k (.int .i64 0))⟩,⟨(some (6,true)),(some 10),.mv (.sl 9)⟩,⟨(some (10,false)),(some 11),.mv (.sl 0)⟩,⟨(some (10,false)),(some 12),.bin .rem (.sl 11) (.k (.int .i64 400))⟩,⟨(some (10,false)),(some 13),.bin .eql (.sl 12) (.k (.int .i64 0))⟩,⟨(some (6,true)),(some 14),.pick (.sl 10) (.k (.bool true)) (.sl 13)⟩,qy 15 6 14,qm 2 15]
 .ret)),[.tmp 2],false⟩
def F248:bp:=⟨18,0,(
 qr [qc 4 (.bool false)]
 (qr [qm 5 0,qo 6 (.slen (.sl 5)),qm 7 1,qo 8 (.slen (.sl 7)),qb 9 .geq 6 8,qm 10 9,⟨(some (10,true)),(some 11),.mv (.sl 0)⟩,⟨(some (10,true)),(some 12),.mv (.sl 1)⟩,⟨(some (10,true)),(some 13),.slen (.sl 12)⟩,⟨(some (10,true)),(some 14),.ssl (.sl 11) none (some (.sl 13))⟩,⟨(some (10,true)),(some 15),.mv (.sl 1)⟩,⟨(some (10,true)),(some 16),.bin .eql (.sl 14) (.sl 15)⟩,qy 17 10 16,qm 4 17]
 .ret)),[.tmp 4],false⟩
def FB50:bp:=⟨34,0,(
 qr [qi 4 0]
 (.seq (qr [qi 5 0]
 (.block 0 (.loop (.seq (qr [qm 6 5,qm 7 0,qn 8 7,qb 9 .lss 6 8]
 (qd 9 .skip (.exit 0)))
 (.seq (.block 1 (qr [qm 12 0,qm 13 5,qm 14 1,qa 15 3 12 13,qf 16 0 15,qe (.stx 1 (.sl 16) (.sl 14))]
 (qr [qm 17 1,qk 18 .add 17 1,qm 1 18]
 (qr [qm 19 0,qm 20 5,qa 21 3 19 20,qf 22 1 21,ql 23 1 false 22,qm 24 1,qo 25 (.callU 57 [(.sl 23),(.sl 24)]),qm 1 25]
 (.reg [qm 26 0,qm 27 5,qa 28 3 26 27,qf 29 2 28,ql 30 1 false 29,qm 31 1,qo 32 (.callU 58 [(.sl 30),(.sl 31)]),qm 1 32] [])))))
 (.reg [qm 10 5,qk 11 .add 10 1,qm 5 11] []))))))
 (qr [qm 33 1,qm 4 33]
 .ret))),[.tmp 4,.tmp 0],true⟩
def FB51:bp:=⟨49,0,(
 qr [qi 4 0]
 (.seq (qr [qi 5 0]
 (.block 0 (.loop (.seq (qr [qm 6 5,qm 7 0,qn 8 7,qb 9 .lss 6 8]
 (qd 9 .skip (.exit 0)))
 (.seq (.block 1 (qr [qm 12 0,qm 13 5,qm 14 1,qa 15 5 12 13,qf 16 0 15,qe (.stx 1 (.sl 16) (.sl 14))]
 (qr [qm 17 1,qk 18 .add 17 1,qm 1 18]
 (qr [qm 19 0,qm 20 5,qm 21 1,qt 22 59 21,qa 23 5 19 20,qf 24 1 23,qe (.stx 1 (.sl 24) (.sl 22))]
 (qr [qm 25 1,qk 26 .add 25 1,qm 1 26]
 (qr [qm 27 0,qm 28 5,qm 29 1,qa 30 5 27 28,qf 31 2 30,qe (.stx 1 (.sl 31) (.sl 29))]
 (qr [qm 32 1,qk 33 .add 32 1,qm 1 33]
 (qr [qm 34 0,qm 35 5,qm 36 1,qa 37 5 34 35,qf 38 3 37,qe (.stx 1 (.sl 38) (.sl 36))]
 (qr [qm 39 1,qk 40 .add 39 1,qm 1 40]
 (.reg [qm 41 0,qm 42 5,qa 43 5 41 42,qf 44 4 43,ql 45 1 false 44,qm 46 1,qo 47 (.callU 58 [(.sl 45),(.sl 46)]),qm 1 47] []))))))))))
 (.reg [qm 10 5,qk 11 .add 10 1,qm 5 11] []))))))
 (qr [qm 48 1,qm 4 48]
 .ret))),[.tmp 4,.tmp 0],true⟩
def FB57:bp:=⟨20,0,(
 qr [qi 4 0]
 (.seq (qr [qi 5 0]
 (.block 0 (.loop (.seq (qr [qm 6 5,qm 7 0,qn 8 7,qb 9 .lss 6 8]
 (qd 9 .skip (.exit 0)))
 (.seq (.block 1 (qr [qm 12 0,qm 13 5,qm 14 1,qt 15 59 14,qa 16 1 12 13,qe (.stx 1 (.sl 16) (.sl 15))]
 (.reg [qm 17 1,qk 18 .add 17 1,qm 1 18] [])))
 (.reg [qm 10 5,qk 11 .add 10 1,qm 5 11] []))))))
 (qr [qm 19 1,qm 4 19]
 .ret))),[.tmp 4,.tmp 0],true⟩
def FB58:bp:=⟨29,0,(
 qr [qi 4 0]
 (.seq (qr [qi 5 0]
 (.block 0 (.loop (.seq (qr [qm 6 5,qm 7 0,qn 8 7,qb 9 .lss 6 8]
 (qd 9 .skip (.exit 0)))
 (.seq (.block 1 (qr [qm 12 0,qm 13 5,qm 14 1,qt 15 59 14,qa 16 2 12 13,qf 17 0 16,qe (.stx 1 (.sl 17) (.sl 15))]
 (qr [qm 18 1,qk 19 .add 18 1,qm 1 19]
 (qr [qm 20 0,qm 21 5,qm 22 1,qt 23 59 22,qa 24 2 20 21,qf 25 1 24,qe (.stx 1 (.sl 25) (.sl 23))]
 (.reg [qm 26 1,qk 27 .add 26 1,qm 1 27] [])))))
 (.reg [qm 10 5,qk 11 .add 10 1,qm 5 11] []))))))
 (qr [qm 28 1,qm 4 28]
 .ret))),[.tmp 4,.tmp 0],true⟩
def F14:bp:=⟨14,0,(
 qr [qo 2 (.box 2 (.sl 0)),qi 4 0]
 (qr [qf 5 0 2,ql 6 1 false 5,qm 7 1,qo 8 (.callU 50 [(.sl 6),(.sl 7)]),qm 1 8]
 (qr [qf 9 1 2,ql 10 1 false 9,qm 11 1,qo 12 (.callU 51 [(.sl 10),(.sl 11)]),qm 1 12]
 (qr [qm 13 1,qm 4 13]
 .ret)))),[.tmp 4],false⟩
def FB14:bp:=⟨14,0,(
 qr [qo 2 (.box 2 (.sl 0)),qi 4 0]
 (qr [qf 5 0 2,ql 6 1 false 5,qm 7 1,qo 8 (.callU 50 [(.sl 6),(.sl 7)]),qm 1 8]
 (qr [qf 9 1 2,ql 10 1 false 9,qm 11 1,qo 12 (.callU 51 [(.sl 10),(.sl 11)]),qm 1 12]
 (qr [qm 13 1,qm 4 13]
 .ret)))),[.tmp 4,.tmp 0],true⟩
def FB20:bp:=⟨109,0,(
 qr [qi 4 0]
 (.seq (qr [qi 5 0]
 (.block 0 (.loop (.seq (qr [qm 6 5,qm 7 0,qn 8 7,qb 9 .lss 6 8]
 (qd 9 .skip (.exit 0)))
 (.seq (.block 1 (qr [qm 12 0,qm 13 5,qm 14 1,qa 15 12 12 13,qf 16 0 15,qe (.stx 1 (.sl 16) (.sl 14))]
 (qr [qm 17 1,qk 18 .add 17 1,qm 1 18]
 (qr [qm 19 0,qm 20 5,qm 21 1,qa 22 12 19 20,qf 23 1 22,qf 24 0 23,qe (.stx 1 (.sl 24) (.sl 21))]
 (qr [qm 25 1,qk 26 .add 25 1,qm 1 26]
 (qr [qm 27 0,qm 28 5,qa 29 12 27 28,qf 30 1 29,qf 31 1 30,ql 32 1 false 31,qm 33 1,qo 34 (.callU 57 [(.sl 32),(.sl 33)]),qm 1 34]
 (qr [qm 35 0,qm 36 5,qa 37 12 35 36,qf 38 1 37,qf 39 2 38,ql 40 1 false 39,qm 41 1,qo 42 (.callU 58 [(.sl 40),(.sl 41)]),qm 1 42]
 (qr [qm 43 0,qm 44 5,qm 45 1,qa 46 12 43 44,qf 47 4 46,qf 48 0 47,qe (.stx 1 (.sl 48) (.sl 45))]
 (qr [qm 49 1,qk 50 .add 49 1,qm 1 50]
 (qr [qm 51 0,qm 52 5,qm 53 1,qt 54 59 53,qa 55 12 51 52,qf 56 4 55,qf 57 1 56,qe (.stx 1 (.sl 57) (.sl 54))]
 (qr [qm 58 1,qk 59 .add 58 1,qm 1 59]
 (qr [qm 60 0,qm 61 5,qm 62 1,qa 63 12 60 61,qf 64 4 63,qf 65 2 64,qe (.stx 1 (.sl 65) (.sl 62))]
 (qr [qm 66 1,qk 67 .add 66 1,qm 1 67]
 (qr [qm 68 0,qm 69 5,qm 70 1,qa 71 12 68 69,qf 72 4 71,qf 73 3 72,qe (.stx 1 (.sl 73) (.sl 70))]
 (qr [qm 74 1,qk 75 .add 74 1,qm 1 75]
 (qr [qm 76 0,qm 77 5,qa 78 12 76 77,qf 79 4 78,qf 80 4 79,ql 81 1 false 80,qm 82 1,qo 83 (.callU 58 [(.sl 81),(.sl 82)]),qm 1 83]
 (qr [qm 84 0,qm 85 5,qm 86 1,qt 87 59 86,qa 88 12 84 85,qf 89 9 88,qe (.stx 1 (.sl 89) (.sl 87))]
 (qr [qm 90 1,qk 91 .add 90 1,qm 1 91]
 (qr [qm 92 0,qm 93 5,qm 94 1,qt 95 59 94,qa 96 12 92 93,qf 97 10 96,qe (.stx 1 (.sl 97) (.sl 95))]
 (qr [qm 98 1,qk 99 .add 98 1,qm 1 99]
 (qr [qm 100 0,qm 101 5,qm 102 1,qt 103 59 102,qa 104 12 100 101,qf 105 11 104,qe (.stx 1 (.sl 105) (.sl 103))]
 (.reg [qm 106 1,qk 107 .add 106 1,qm 1 107] []))))))))))))))))))))))
 (.reg [qm 10 5,qk 11 .add 10 1,qm 5 11] []))))))
 (qr [qm 108 1,qm 4 108]
 .ret))),[.tmp 4,.tmp 0],true⟩
def F19:bp:=⟨27,0,(
 qr [qc 4 (.bool false)]
 (qg [qm 6 0,qn 7 6,qm 8 1,qn 9 8,qb 10 .neq 7 9] 10 (qc 4 (.bool false))
 (.seq (qr [qi 5 0]
 (.block 0 (.loop (.seq (qr [qm 11 5,qm 12 0,qn 13 12,qb 14 .lss 11 13]
 (qd 14 .skip (.exit 0)))
 (.seq (.block 1 (qr [qm 17 0,qm 18 5,qa 19 12 17 18,ql 20 12 true 19,qm 21 1,qm 22 5,qa 23 12 21 22,ql 24 12 true 23,qu 25 56 20 24,qo 26 (.un .not (.sl 25))]
 (qd 26 (qr [qc 4 (.bool false)]
 .ret) .skip)))
 (.reg [qm 15 5,qk 16 .add 15 1,qm 5 16] []))))))
 (qr [qc 4 (.bool true)]
 .ret)))),[.tmp 4],false⟩
def F56:bp:=⟨37,0,(
 qr [qo 2 (.box 12 (.sl 0)),qo 3 (.box 12 (.sl 1)),qc 4 (.bool false)]
 (qg [qf 5 0 2,ql 6 1 false 5,qf 7 0 3,ql 8 1 false 7,qb 9 .neq 6 8] 9 (qc 4 (.bool false))
 (qg [qf 10 1 2,ql 11 3 true 10,qf 12 1 3,ql 13 3 true 12,qu 14 93 11 13,qo 15 (.un .not (.sl 14))] 15 (qc 4 (.bool false))
 (qg [qf 16 4 2,ql 17 5 true 16,qf 18 4 3,ql 19 5 true 18,qu 20 94 17 19,qo 21 (.un .not (.sl 20))] 21 (qc 4 (.bool false))
 (qg [qf 22 9 2,ql 23 1 false 22,qf 24 9 3,ql 25 1 false 24,qb 26 .neq 23 25] 26 (qc 4 (.bool false))
 (qg [qf 27 10 2,ql 28 1 false 27,qf 29 10 3,ql 30 1 false 29,qb 31 .neq 28 30] 31 (qc 4 (.bool false))
 (qg [qf 32 11 2,ql 33 1 false 32,qf 34 11 3,ql 35 1 false 34,qb 36 .neq 33 35] 36 (qc 4 (.bool false))
 (qr [qc 4 (.bool true)]
 .ret)))))))),[.tmp 4],false⟩
def F99:bp:=⟨22,0,(
 qr [qo 2 (.box 2 (.sl 0)),qi 4 0]
 (.seq (qr [qi 5 0]
 (.block 0 (.loop (.seq (qr [qm 6 5,qf 7 1 2,ql 8 1 false 7,qn 9 8,qb 10 .lss 6 9]
 (qd 10 .skip (.exit 0)))
 (.seq (.block 1 (qr [qf 13 1 2,ql 14 1 false 13,qm 15 5,qa 16 5 14 15,qf 17 0 16,ql 18 1 false 17,qm 19 1,qb 20 .eql 18 19]
 (qd 20 (qr [qm 21 5,qm 4 21]
 .ret) .skip)))
 (.reg [qm 11 5,qk 12 .add 11 1,qm 5 12] []))))))
 (qr [qi 4 (-1)]
 .ret))),[.tmp 4],false⟩
def F101:bp:=⟨21,0,(
 qr [qo 2 (.box 2 (.sl 0)),qi 4 0]
 (.seq (qr [qf 7 1 2,ql 8 1 false 7,qn 9 8,qi 10 0]
 (.block 0 (.loop (qr [qb 11 .lss 10 9]
 (.seq (qd 11 .skip (.exit 0))
 (.seq (.block 1 (qr [qm 12 10,qa 13 5 8 10,ql 14 5 true 13,qo 6 (.alloc [(.int .i64 0),(.str ⟨#[]⟩),(.int .i64 0),(.int .i64 0),qN]),qm 5 12,qs 5 6 14]
 (qr [qf 15 0 6,ql 16 1 false 15,qm 17 1,qb 18 .eql 16 17]
 (qd 18 (qr [qm 19 5,qm 4 19]
 .ret) .skip))))
 (.reg [qk 20 .add 10 1,qm 10 20] [])))))))
 (qr [qi 4 (-1)]
 .ret))),[.tmp 4],false⟩
def F132:bp:=⟨51,0,(
 qr [qc 2 qN]
 (qr [qo 7 (.bsl 133 2 [(.str ⟨#[]⟩),(.str ⟨#[]⟩)] 0 []),qm 3 7]
 (.seq (qr [qi 4 0]
 (.block 0 (.loop (.seq (qr [qm 8 4,qm 9 0,qn 10 9,qb 11 .lss 8 10]
 (qd 11 .skip (.exit 0)))
 (.seq (.block 1 (qr [qm 14 3,qn 15 14,qm 5 15]
 (.seq (.block 2 (.loop (.seq (qr [qm 16 5,qk 17 .gtr 16 0,qm 18 17,⟨(some (18,true)),(some 19),.mv (.sl 3)⟩,⟨(some (18,true)),(some 20),.mv (.sl 5)⟩,⟨(some (18,true)),(some 21),.bin .sub (.sl 20) (.k (.int .i64 1))⟩,⟨(some (18,true)),(some 22),.iad 2 (.sl 19) (.sl 21)⟩,⟨(some (18,true)),(some 23),.fad 0 (.sl 22)⟩,⟨(some (18,true)),(some 24),.load 1 false (.sl 23)⟩,⟨(some (18,true)),(some 25),.mv (.sl 0)⟩,⟨(some (18,true)),(some 26),.mv (.sl 4)⟩,⟨(some (18,true)),(some 27),.iad 2 (.sl 25) (.sl 26)⟩,⟨(some (18,true)),(some 28),.fad 0 (.sl 27)⟩,⟨(some (18,true)),(some 29),.load 1 false (.sl 28)⟩,⟨(some (18,true)),(some 30),.bin .gtr (.sl 24) (.sl 29)⟩,qy 31 18 30]
 (qd 31 .skip (.exit 2)))
 (.block 3 (.reg [qm 32 5,qk 33 .sub 32 1,qm 5 33] [])))))
 (qr [qo 34 (.bsl 133 2 [(.str ⟨#[]⟩),(.str ⟨#[]⟩)] 0 []),qm 35 3,qm 36 5,qo 37 (.slc 2 (.sl 35) (some (.sl 36)) none),qo 38 (.apc 133 2 32 (.sl 34) (.sl 37)),qm 6 38]
 (.reg [qm 39 3,qm 40 5,qo 41 (.slc 2 (.sl 39) none (some (.sl 40))),qm 42 0,qm 43 4,qa 44 2 42 43,ql 45 2 true 44,qo 46 (.bsl 133 2 [(.str ⟨#[]⟩),(.str ⟨#[]⟩)] 1 [(0,2,(.sl 45))]),qo 47 (.apc 133 2 32 (.sl 41) (.sl 46)),qm 48 6,qo 49 (.apc 133 2 32 (.sl 47) (.sl 48)),qm 3 49] [])))))
 (.reg [qm 12 4,qk 13 .add 12 1,qm 4 13] []))))))
 (qr [qm 50 3,qm 2 50]
 .ret)))),[.tmp 2],false⟩
def F6:bp:=⟨92,0,(
 qr [qo 2 (.box 2 (.sl 0)),qc 4 (.bool false)]
 (qr [qi 5 1048576]
 (qr [ql 14 2 true 2,qm 15 5,qu 16 8 14 15,qm 5 16]
 (qg [qm 17 5,qk 18 .lss 17 0] 18 (qc 4 (.bool true))
 (qr [qm 19 1,qm 20 5,qu 21 29 19 20,qm 5 21]
 (qg [qm 22 5,qk 23 .lss 22 0] 23 (qc 4 (.bool true))
 (qr [ql 24 2 true 2,qt 25 10 24,qm 26 1,qt 27 31 26,qu 28 30 25 27,qo 6 (.alloc [(.int .i64 0),(.int .i64 0),qN,qN]),qs 4 6 28]
 (qr [ql 29 2 true 2,qt 30 10 29,qo 7 (.alloc [qN,qN]),qs 2 7 30]
 (qr [qm 31 1,qt 32 31 31,qm 8 32]
 (qr [ql 33 2 true 7,qm 34 8,qu 35 32 33 34,qo 9 (.alloc [(.int .i64 0),(.int .i64 0),qN,qN]),qs 4 9 35]
 (qg [ql 36 4 true 9,ql 37 4 true 6,qu 38 33 36 37,qo 39 (.un .not (.sl 38))] 39 (qc 4 (.bool false))
 (.seq (.seq (.reg [ql 40 2 true 7,ql 41 2 true 2,qt 42 10 41,qu 43 13 40 42,qo 44 (.un .not (.sl 43))] [(0,2)])
 (qd 44 (qr [qc 4 (.bool false)]
 .ret) .skip))
 (qg [qm 45 8,qm 46 1,qt 47 31 46,qu 48 19 45 47,qo 49 (.un .not (.sl 48))] 49 (qc 4 (.bool false))
 (qr [qi 10 1]
 (qr [ql 50 2 true 7,qm 51 10,qo 52 (.call 14 [(.sl 50),(.sl 51)] [0]),qm 10 52]
 (qr [qm 53 8,qm 54 10,qo 55 (.callU 20 [(.sl 53),(.sl 54)]),qm 10 55]
 (qg [qm 56 10,qk 57 .lss 56 0,qm 58 57,⟨(some (58,false)),(some 59),.load 4 true (.sl 9)⟩,⟨(some (58,false)),(some 60),.load 4 true (.sl 6)⟩,⟨(some (58,false)),(some 61),.call 33 [(.sl 59),(.sl 60)] []⟩,⟨(some (58,false)),(some 62),.un .not (.sl 61)⟩,qx 63 58 62] 63 (qc 4 (.bool false))
 (qr [qi 11 1]
 (qr [ql 64 4 true 9,qm 65 11,qo 66 (.callU 34 [(.sl 64),(.sl 65)]),qm 11 66]
 (qr [qi 12 1]
 (qr [ql 67 4 true 9,qm 68 12,qu 69 35 67 68,qm 12 69]
 (qg [qm 70 12,qk 71 .lss 70 0] 71 (qc 4 (.bool false))
 (qg [qm 72 12,qm 73 11,qb 74 .neq 72 73] 74 (qc 4 (.bool false))
 (qr [ql 75 2 true 2,qt 76 10 75,qm 77 1,qt 78 31 77,qu 79 32 76 78,qo 13 (.alloc [(.int .i64 0),(.int .i64 0),qN,qN]),qs 4 13 79]
 (qg [ql 80 4 true 13,ql 81 4 true 6,qu 82 33 80 81,qo 83 (.un .not (.sl 82))] 83 (qc 4 (.bool false))
 (qr [qi 12 1]
 (qr [ql 84 4 true 9,qm 85 12,qu 86 35 84 85,qm 12 86]
 (qg [qm 87 12,qk 88 .lss 87 0] 88 (qc 4 (.bool false))
 (qg [qm 89 12,qm 90 11,qb 91 .neq 89 90] 91 (qc 4 (.bool false))
 (qr [qc 4 (.bool true)]
 .ret)))))))))))))))))))))))))))))),[.tmp 4],false⟩
def F29:bp:=⟨27,0,(
 qr [qi 4 0]
 (qr [qm 6 1,qm 7 0,qn 8 7,qb 9 .sub 6 8,qm 1 9]
 (qg [qm 10 1,qk 11 .lss 10 0] 11 (qi 4 (-1))
 (.seq (qr [qi 5 0]
 (.block 0 (.loop (.seq (qr [qm 12 5,qm 13 0,qn 14 13,qb 15 .lss 12 14]
 (qd 15 .skip (.exit 0)))
 (.seq (.block 1 (qr [qm 18 0,qm 19 5,qa 20 12 18 19,ql 21 12 true 20,qm 22 1,qu 23 75 21 22,qm 1 23]
 (qr [qm 24 1,qk 25 .lss 24 0]
 (qd 25 (qr [qi 4 (-1)]
 .ret) .skip))))
 (.reg [qm 16 5,qk 17 .add 16 1,qm 5 17] []))))))
 (qr [qm 26 1,qm 4 26]
 .ret))))),[.tmp 4],false⟩
def F30:bp:=⟨30,0,(
 qr [qo 2 (.box 2 (.sl 0)),qo 4 (.alloc [(.int .i64 0),(.int .i64 0),qN,qN])]
 (.seq (qr [qm 8 1,qn 9 8,qk 10 .gtr 9 1000]
 (qd 10 (qr [qo 11 (.build [(.int .i64 0),(.int .i64 0),qN,qN] [(0,1,(.k (.int .i64 2)))]),qs 4 4 11]
 .ret) .skip))
 (.seq (qr [ql 12 2 true 2,qt 13 40 12,qk 14 .neq 13 0]
 (qd 14 (qr [qo 15 (.build [(.int .i64 0),(.int .i64 0),qN,qN] [(0,1,(.k (.int .i64 1)))]),qs 4 4 15]
 .ret) .skip))
 (qr [ql 17 2 true 2,qm 18 1,qu 19 76 17 18,qm 16 19,qo 20 (.ext (.sl 16) 0),qo 21 (.ext (.sl 16) 1),qo 22 (.ext (.sl 16) 2),qo 5 (.alloc [qN,qN]),qs 2 5 20,qm 6 21,qm 7 22]
 (.seq (qr [qm 23 7,qk 24 .neq 23 0]
 (qd 24 (qr [qm 25 7,qm 26 6,qo 27 (.build [(.int .i64 0),(.int .i64 0),qN,qN] [(0,1,(.sl 25)),(1,1,(.sl 26))]),qs 4 4 27]
 .ret) .skip))
 (qr [ql 28 2 true 5,qo 29 (.build [(.int .i64 0),(.int .i64 0),qN,qN] [(2,2,(.sl 28))]),qs 4 4 29]
 .ret)))))),[.cell 4 4 true],false⟩
def F31:bp:=⟨23,0,(
 qr [qc 2 qN]
 (qr [qm 5 0,qn 6 5,qo 7 (.mks 85 12 176 [(.int .i64 0),(.int .i64 0),qN,qN,(.int .i64 0),(.str ⟨#[]⟩),(.int .i64 0),(.int .i64 0),qN,(.str ⟨#[]⟩),(.str ⟨#[]⟩),(.str ⟨#[]⟩)] (.sl 6) (.sl 6)),qm 3 7]
 (.seq (qr [qi 4 0]
 (.block 0 (.loop (.seq (qr [qm 8 4,qm 9 0,qn 10 9,qb 11 .lss 8 10]
 (qd 11 .skip (.exit 0)))
 (.seq (.block 1 (.reg [qm 14 3,qm 15 4,qm 16 0,qm 17 4,qa 18 12 16 17,ql 19 12 true 18,qt 20 77 19,qa 21 12 14 15,qs 12 21 20] []))
 (.reg [qm 12 4,qk 13 .add 12 1,qm 4 13] []))))))
 (qr [qm 22 3,qm 2 22]
 .ret)))),[.tmp 2],true⟩
def F32:bp:=⟨16,0,(
 qr [qo 2 (.box 2 (.sl 0)),qo 4 (.alloc [(.int .i64 0),(.int .i64 0),qN,qN])]
 (.seq (qr [qm 5 1,qn 6 5,qk 7 .gtr 6 1000]
 (qd 7 (qr [qo 8 (.build [(.int .i64 0),(.int .i64 0),qN,qN] [(0,1,(.k (.int .i64 2)))]),qs 4 4 8]
 .ret) .skip))
 (.seq (qr [ql 9 2 true 2,qt 10 46 9,qo 11 (.un .not (.sl 10))]
 (qd 11 (qr [qo 12 (.build [(.int .i64 0),(.int .i64 0),qN,qN] [(0,1,(.k (.int .i64 1)))]),qs 4 4 12]
 .ret) .skip))
 (qr [ql 13 2 true 2,qm 14 1,qu 15 78 13 14,qs 4 4 15]
 .ret)))),[.cell 4 4 true],true⟩
def F33:bp:=⟨21,0,(
 qr [qo 2 (.box 4 (.sl 0)),qo 3 (.box 4 (.sl 1)),qc 4 (.bool false)]
 (qg [qf 5 0 2,ql 6 1 false 5,qf 7 0 3,ql 8 1 false 7,qb 9 .neq 6 8] 9 (qc 4 (.bool false))
 (qg [qf 10 1 2,ql 11 1 false 10,qf 12 1 3,ql 13 1 false 12,qb 14 .neq 11 13] 14 (qc 4 (.bool false))
 (qg [qf 15 2 2,ql 16 2 true 15,qf 17 2 3,ql 18 2 true 17,qu 19 13 16 18,qo 20 (.un .not (.sl 19))] 20 (qc 4 (.bool false))
 (qr [qc 4 (.bool true)]
 .ret))))),[.tmp 4],false⟩
def FB34:bp:=⟨10,0,(
 qr [qo 2 (.box 4 (.sl 0)),qi 4 0]
 (qr [qf 5 2 2,ql 6 2 true 5,qm 7 1,qo 8 (.callU 14 [(.sl 6),(.sl 7)]),qm 1 8]
 (qr [qm 9 1,qm 4 9]
 .ret))),[.tmp 4,.tmp 0],true⟩
def F74:bp:=⟨18,0,(
 qr [qo 2 (.box 2 (.sl 0)),qi 4 0]
 (qr [qf 5 0 2,ql 6 1 false 5,qm 7 1,qu 8 52 6 7,qm 1 8]
 (qg [qm 9 1,qk 10 .lss 9 0] 10 (qi 4 (-1))
 (qr [qf 11 1 2,ql 12 1 false 11,qm 13 1,qu 14 53 12 13,qm 1 14]
 (qg [qm 15 1,qk 16 .lss 15 0] 16 (qi 4 (-1))
 (qr [qm 17 1,qm 4 17]
 .ret)))))),[.tmp 4],false⟩
def F35:bp:=⟨12,0,(
 qr [qo 2 (.box 4 (.sl 0)),qi 4 0]
 (qr [qf 5 2 2,ql 6 2 true 5,qm 7 1,qu 8 74 6 7,qm 1 8]
 (qg [qm 9 1,qk 10 .lss 9 0] 10 (qi 4 (-1))
 (qr [qm 11 1,qm 4 11]
 .ret)))),[.tmp 4],false⟩
def F63:bp:=⟨50,0,(
 qr [qo 2 (.box 2 (.sl 0)),qo 3 (.box 3 (.sl 1)),qo 4 (.alloc [qN,qN])]
 (qr [qo 8 (.bsl 72 3 [(.int .i64 0),qN,qN] 0 []),qm 5 8]
 (qr [qc 6 (.bool false)]
 (.seq (qr [qi 7 0]
 (.block 0 (.loop (.seq (qr [qm 9 7,qf 10 0 2,ql 11 1 false 10,qn 12 11,qb 13 .lss 9 12]
 (qd 13 .skip (.exit 0)))
 (.seq (.block 1 (.seq (qr [qm 16 6,qo 17 (.un .not (.sl 16)),qm 18 17,⟨(some (18,true)),(some 19),.fad 0 (.sl 2)⟩,⟨(some (18,true)),(some 20),.load 1 false (.sl 19)⟩,⟨(some (18,true)),(some 21),.mv (.sl 7)⟩,⟨(some (18,true)),(some 22),.iad 3 (.sl 20) (.sl 21)⟩,⟨(some (18,true)),(some 23),.fad 0 (.sl 22)⟩,⟨(some (18,true)),(some 24),.load 1 false (.sl 23)⟩,⟨(some (18,true)),(some 25),.fad 0 (.sl 3)⟩,⟨(some (18,true)),(some 26),.load 1 false (.sl 25)⟩,⟨(some (18,true)),(some 27),.bin .gtr (.sl 24) (.sl 26)⟩,qy 28 18 27]
 (qd 28 (qr [qm 29 5,ql 30 3 true 3,qo 31 (.bsl 72 3 [(.int .i64 0),qN,qN] 1 [(0,3,(.sl 30))]),qo 32 (.app 72 3 56 (.sl 29) (.sl 31)),qm 5 32]
 (.reg [qc 6 (.bool true)] [])) .skip))
 (.reg [qm 33 5,qf 34 0 2,ql 35 1 false 34,qm 36 7,qa 37 3 35 36,ql 38 3 true 37,qo 39 (.bsl 72 3 [(.int .i64 0),qN,qN] 1 [(0,3,(.sl 38))]),qo 40 (.app 72 3 56 (.sl 33) (.sl 39)),qm 5 40] [])))
 (.reg [qm 14 7,qk 15 .add 14 1,qm 7 15] []))))))
 (.seq (qr [qm 41 6,qo 42 (.un .not (.sl 41))]
 (qd 42 (.reg [qm 43 5,ql 44 3 true 3,qo 45 (.bsl 72 3 [(.int .i64 0),qN,qN] 1 [(0,3,(.sl 44))]),qo 46 (.app 72 3 56 (.sl 43) (.sl 45)),qm 5 46] []) .skip))
 (qr [qm 47 5,qf 48 0 2,qs 1 48 47]
 (qr [ql 49 2 true 2,qs 2 4 49]
 .ret))))))),[.cell 4 2 true],true⟩
def F64:bp:=⟨50,0,(
 qr [qo 2 (.box 2 (.sl 0)),qo 3 (.box 5 (.sl 1)),qo 4 (.alloc [qN,qN])]
 (qr [qo 8 (.bsl 68 5 [(.int .i64 0),(.str ⟨#[]⟩),(.int .i64 0),(.int .i64 0),qN] 0 []),qm 5 8]
 (qr [qc 6 (.bool false)]
 (.seq (qr [qi 7 0]
 (.block 0 (.loop (.seq (qr [qm 9 7,qf 10 1 2,ql 11 1 false 10,qn 12 11,qb 13 .lss 9 12]
 (qd 13 .skip (.exit 0)))
 (.seq (.block 1 (.seq (qr [qm 16 6,qo 17 (.un .not (.sl 16)),qm 18 17,⟨(some (18,true)),(some 19),.fad 1 (.sl 2)⟩,⟨(some (18,true)),(some 20),.load 1 false (.sl 19)⟩,⟨(some (18,true)),(some 21),.mv (.sl 7)⟩,⟨(some (18,true)),(some 22),.iad 5 (.sl 20) (.sl 21)⟩,⟨(some (18,true)),(some 23),.fad 0 (.sl 22)⟩,⟨(some (18,true)),(some 24),.load 1 false (.sl 23)⟩,⟨(some (18,true)),(some 25),.fad 0 (.sl 3)⟩,⟨(some (18,true)),(some 26),.load 1 false (.sl 25)⟩,⟨(some (18,true)),(some 27),.bin .gtr (.sl 24) (.sl 26)⟩,qy 28 18 27]
 (qd 28 (qr [qm 29 5,ql 30 5 true 3,qo 31 (.bsl 68 5 [(.int .i64 0),(.str ⟨#[]⟩),(.int .i64 0),(.int .i64 0),qN] 1 [(0,5,(.sl 30))]),qo 32 (.app 68 5 64 (.sl 29) (.sl 31)),qm 5 32]
 (.reg [qc 6 (.bool true)] [])) .skip))
 (.reg [qm 33 5,qf 34 1 2,ql 35 1 false 34,qm 36 7,qa 37 5 35 36,ql 38 5 true 37,qo 39 (.bsl 68 5 [(.int .i64 0),(.str ⟨#[]⟩),(.int .i64 0),(.int .i64 0),qN] 1 [(0,5,(.sl 38))]),qo 40 (.app 68 5 64 (.sl 33) (.sl 39)),qm 5 40] [])))
 (.reg [qm 14 7,qk 15 .add 14 1,qm 7 15] []))))))
 (.seq (qr [qm 41 6,qo 42 (.un .not (.sl 41))]
 (qd 42 (.reg [qm 43 5,ql 44 5 true 3,qo 45 (.bsl 68 5 [(.int .i64 0),(.str ⟨#[]⟩),(.int .i64 0),(.int .i64 0),qN] 1 [(0,5,(.sl 44))]),qo 46 (.app 68 5 64 (.sl 43) (.sl 45)),qm 5 46] []) .skip))
 (qr [qm 47 5,qf 48 1 2,qs 1 48 47]
 (qr [ql 49 2 true 2,qs 2 4 49]
 .ret))))))),[.cell 4 2 true],true⟩
def F67:bp:=⟨22,0,(
 qr [qc 4 qN]
 (qr [qc 5 qN]
 (.seq (qr [qm 8 0,qn 9 8,qi 10 0]
 (.block 0 (.loop (qr [qb 11 .lss 10 9]
 (.seq (qd 11 .skip (.exit 0))
 (.seq (.block 1 (qr [qa 12 5 8 10,ql 13 5 true 12,qo 7 (.alloc [(.int .i64 0),(.str ⟨#[]⟩),(.int .i64 0),(.int .i64 0),qN]),qs 5 7 13]
 (.reg [qm 14 5,qm 15 1,ql 16 5 true 7,qo 17 (.cval (.sl 15) [.sl 16]),qo 18 (.bsl 68 5 [(.int .i64 0),(.str ⟨#[]⟩),(.int .i64 0),(.int .i64 0),qN] 1 [(0,5,(.sl 17))]),qo 19 (.app 68 5 64 (.sl 14) (.sl 18)),qm 5 19] [])))
 (.reg [qk 20 .add 10 1,qm 10 20] [])))))))
 (qr [qm 21 5,qm 4 21]
 .ret)))),[.tmp 4],true⟩
def F75:bp:=⟨39,0,(
 qr [qo 2 (.box 12 (.sl 0)),qi 4 0]
 (qr [qf 5 1 2,ql 6 3 true 5,qm 7 1,qu 8 79 6 7,qm 1 8]
 (qg [qm 9 1,qk 10 .lss 9 0] 10 (qi 4 (-1))
 (qr [qf 11 4 2,ql 12 5 true 11,qm 13 1,qu 14 80 12 13,qm 1 14]
 (qg [qm 15 1,qk 16 .lss 15 0] 16 (qi 4 (-1))
 (qr [qm 17 1,qf 18 9 2,ql 19 1 false 18,qo 20 (.slen (.sl 19)),qb 21 .sub 17 20,qm 1 21]
 (qg [qm 22 1,qk 23 .lss 22 0] 23 (qi 4 (-1))
 (qr [qm 24 1,qf 25 10 2,ql 26 1 false 25,qo 27 (.slen (.sl 26)),qb 28 .sub 24 27,qm 1 28]
 (qg [qm 29 1,qk 30 .lss 29 0] 30 (qi 4 (-1))
 (qr [qm 31 1,qf 32 11 2,ql 33 1 false 32,qo 34 (.slen (.sl 33)),qb 35 .sub 31 34,qm 1 35]
 (qg [qm 36 1,qk 37 .lss 36 0] 37 (qi 4 (-1))
 (qr [qm 38 1,qm 4 38]
 .ret)))))))))))),[.tmp 4],false⟩
def F76:bp:=⟨32,0,(
 qr [qo 2 (.box 2 (.sl 0)),qo 4 (.alloc [qN,qN]),qi 5 0,qi 6 0]
 (qr [ql 9 2 true 2,qt 10 112 9,qs 2 2 10]
 (qr [qi 7 0]
 (.seq (qr [qi 8 0]
 (.block 0 (.loop (.seq (qr [qm 11 8,qm 12 1,qn 13 12,qb 14 .lss 11 13]
 (qd 14 .skip (.exit 0)))
 (.seq (.block 1 (qr [ql 18 2 true 2,qm 19 1,qm 20 8,qa 21 12 19 20,ql 22 12 true 21,qo 23 (.call 113 [(.sl 18),(.sl 22)] [0]),qm 17 23,qo 24 (.ext (.sl 17) 0),qo 25 (.ext (.sl 17) 1),qs 2 2 24,qm 7 25]
 (qr [qm 26 7,qk 27 .neq 26 0]
 (qd 27 (qr [ql 28 2 true 2,qm 29 8,qm 30 7,qs 2 4 28,qm 5 29,qm 6 30]
 .ret) .skip))))
 (.reg [qm 15 8,qk 16 .add 15 1,qm 8 16] []))))))
 (qr [ql 31 2 true 2,qs 2 4 31,qi 5 0,qi 6 0]
 .ret))))),[.cell 4 2 true,.tmp 5,.tmp 6],false⟩
def F77:bp:=⟨25,0,(
 qr [qo 1 (.box 12 (.sl 0)),qo 2 (.alloc [(.int .i64 0),(.int .i64 0),qN,qN,(.int .i64 0),(.str ⟨#[]⟩),(.int .i64 0),(.int .i64 0),qN,(.str ⟨#[]⟩),(.str ⟨#[]⟩),(.str ⟨#[]⟩)])]
 (qr [qo 3 (.alloc [(.int .i64 0),(.int .i64 0),qN,qN,(.int .i64 0),(.str ⟨#[]⟩),(.int .i64 0),(.int .i64 0),qN,(.str ⟨#[]⟩),(.str ⟨#[]⟩),(.str ⟨#[]⟩)])]
 (qr [qf 4 0 1,ql 5 1 false 4,qf 6 0 3,qs 1 6 5]
 (qr [qf 7 1 1,ql 8 3 true 7,qt 9 86 8,qf 10 1 3,qs 3 10 9]
 (qr [qf 11 4 1,ql 12 5 true 11,qt 13 87 12,qf 14 4 3,qs 5 14 13]
 (qr [qf 15 9 1,ql 16 1 false 15,qf 17 9 3,qs 1 17 16]
 (qr [qf 18 10 1,ql 19 1 false 18,qf 20 10 3,qs 1 20 19]
 (qr [qf 21 11 1,ql 22 1 false 21,qf 23 11 3,qs 1 23 22]
 (qr [ql 24 12 true 3,qs 12 2 24]
 .ret))))))))),[.cell 2 12 true],true⟩
def F78:bp:=⟨28,0,(
 qr [qo 2 (.box 2 (.sl 0)),qo 4 (.alloc [(.int .i64 0),(.int .i64 0),qN,qN])]
 (qr [ql 9 2 true 2,qt 10 114 9,qo 5 (.alloc [qN,qN]),qs 2 5 10]
 (.seq (qr [qm 11 1,qn 12 11,qi 13 0]
 (.block 0 (.loop (qr [qb 14 .lss 13 12]
 (.seq (qd 14 .skip (.exit 0))
 (.seq (.block 1 (qr [qm 15 13,qa 16 12 11 13,ql 17 12 true 16,qo 7 (.alloc [(.int .i64 0),(.int .i64 0),qN,qN,(.int .i64 0),(.str ⟨#[]⟩),(.int .i64 0),(.int .i64 0),qN,(.str ⟨#[]⟩),(.str ⟨#[]⟩),(.str ⟨#[]⟩)]),qm 6 15,qs 12 7 17]
 (qr [ql 18 12 true 7,qo 19 (.call 115 [(.sl 5),(.sl 18)] [0]),qm 8 19]
 (qr [qm 20 8,qk 21 .neq 20 0]
 (qd 21 (qr [qm 22 8,qm 23 6,qo 24 (.build [(.int .i64 0),(.int .i64 0),qN,qN] [(0,1,(.sl 22)),(1,1,(.sl 23))]),qs 4 4 24]
 .ret) .skip)))))
 (.reg [qk 25 .add 13 1,qm 13 25] [])))))))
 (qr [ql 26 2 true 5,qo 27 (.build [(.int .i64 0),(.int .i64 0),qN,qN] [(2,2,(.sl 26))]),qs 4 4 27]
 .ret)))),[.cell 4 4 true],true⟩
def F91:bp:=⟨31,0,(
 qr [qo 4 (.box 3 (.sl 1)),qc 6 qN]
 (qr [qi 7 0]
 (.seq (.block 0 (.loop (.seq (.seq (.reg [qm 8 7,qm 9 0,qn 10 9,qb 11 .lss 8 10,qm 12 11,⟨(some (12,true)),(some 13),.mv (.sl 2)⟩,⟨(some (12,true)),(some 14),.mv (.sl 0)⟩,⟨(some (12,true)),(some 15),.mv (.sl 7)⟩,⟨(some (12,true)),(some 16),.iad 3 (.sl 14) (.sl 15)⟩,⟨(some (12,true)),(some 17),.load 3 true (.sl 16)⟩,⟨(some (12,true)),(some 18),.cval (.sl 13) [.sl 17]⟩,⟨(some (12,true)),(some 19),.mv (.sl 2)⟩,⟨(some (12,true)),(some 20),.load 3 true (.sl 4)⟩,⟨(some (12,true)),(some 21),.cval (.sl 19) [.sl 20]⟩,⟨(some (12,true)),(some 22),.bin .lss (.sl 18) (.sl 21)⟩,qy 23 12 22] [(10,12)])
 (qd 23 .skip (.exit 0)))
 (.block 1 (.reg [qm 24 7,qk 25 .add 24 1,qm 7 25] [])))))
 (qr [qm 26 0,qm 27 7,ql 28 3 true 4,qo 29 (.bsl 72 3 [(.int .i64 0),qN,qN] 1 [(0,3,(.sl 28))]),qo 30 (.call 128 [(.sl 26),(.sl 27),(.sl 29)] [0,2]),qm 6 30]
 .ret)))),[.tmp 6],true⟩
def F112:bp:=⟨44,0,(
 qr [qo 1 (.box 2 (.sl 0)),qo 2 (.alloc [qN,qN])]
 (qr [qo 6 (.build [qN,qN] []),qo 3 (.alloc [qN,qN]),qs 2 3 6]
 (.seq (qr [qi 4 0]
 (.block 0 (.loop (.seq (qr [qm 7 4,qf 8 0 1,ql 9 1 false 8,qn 10 9,qb 11 .lss 7 10]
 (qd 11 .skip (.exit 0)))
 (.seq (.block 1 (.reg [qf 14 0 3,ql 15 1 false 14,qf 16 0 1,ql 17 1 false 16,qm 18 4,qa 19 3 17 18,ql 20 3 true 19,qt 21 42 20,qo 22 (.bsl 72 3 [(.int .i64 0),qN,qN] 1 [(0,3,(.sl 21))]),qo 23 (.app 72 3 56 (.sl 15) (.sl 22)),qf 24 0 3,qs 1 24 23] [(1,7)]))
 (.reg [qm 12 4,qk 13 .add 12 1,qm 4 13] []))))))
 (.seq (qr [qi 5 0]
 (.block 2 (.loop (.seq (qr [qm 25 5,qf 26 1 1,ql 27 1 false 26,qn 28 27,qb 29 .lss 25 28]
 (qd 29 .skip (.exit 2)))
 (.seq (.block 3 (.reg [qf 32 1 3,ql 33 1 false 32,qf 34 1 1,ql 35 1 false 34,qm 36 5,qa 37 5 35 36,ql 38 5 true 37,qt 39 41 38,qo 40 (.bsl 68 5 [(.int .i64 0),(.str ⟨#[]⟩),(.int .i64 0),(.int .i64 0),qN] 1 [(0,5,(.sl 39))]),qo 41 (.app 68 5 64 (.sl 33) (.sl 40)),qf 42 1 3,qs 1 42 41] [(1,7)]))
 (.reg [qm 30 5,qk 31 .add 30 1,qm 5 31] []))))))
 (qr [ql 43 2 true 3,qs 2 2 43]
 .ret))))),[.cell 2 2 true],true⟩
def F113:bp:=⟨144,0,(
 qr [qo 2 (.box 2 (.sl 0)),qo 3 (.box 12 (.sl 1)),qo 4 (.alloc [qN,qN]),qi 5 0]
 (.seq (qr [ql 8 12 true 3,qt 9 155 8,qo 10 (.un .not (.sl 9))]
 (qd 10 (qr [ql 11 2 true 2,qe (.stx 2 (.sl 4) (.sl 11)),qi 5 1]
 .ret) .skip))
 (qr [ql 12 2 true 2,qf 13 1 3,qf 14 0 13,ql 15 1 false 14,qu 16 83 12 15,qm 6 16]
 (qr [ql 17 2 true 2,qf 18 4 3,qf 19 0 18,ql 20 1 false 19,qu 21 99 17 20,qm 7 21]
 (.seq (qr [qf 22 0 3,ql 23 1 false 22]
 (.block 0 (qr [qk 25 .eql 23 1,qm 24 25]
 (qd 24 (.seq (qr [qm 26 6,qk 27 .geq 26 0]
 (qd 27 (qr [ql 28 2 true 2,qe (.stx 2 (.sl 4) (.sl 28)),qi 5 9]
 .ret) .skip))
 (.seq (qr [qf 29 0 2,ql 30 1 false 29,qn 31 30,qk 32 .eql 31 200]
 (qd 32 (qr [ql 33 2 true 2,qe (.stx 2 (.sl 4) (.sl 33)),qi 5 4]
 .ret) .skip))
 (.seq (.reg [ql 34 2 true 2,qf 35 1 3,ql 36 3 true 35,qt 37 42 36,qo 38 (.call 63 [(.sl 34),(.sl 37)] [0]),qe (.stx 2 (.sl 4) (.sl 38)),qi 5 0] [(0,3)])
 .ret))) (qr [qk 40 .eql 23 2,qm 39 40]
 (qd 39 (.seq (qr [qm 41 6,qk 42 .lss 41 0]
 (qd 42 (qr [ql 43 2 true 2,qe (.stx 2 (.sl 4) (.sl 43)),qi 5 5]
 .ret) .skip))
 (.seq (qr [ql 44 2 true 2,qf 45 1 3,qf 46 0 45,ql 47 1 false 46,qo 48 (.call 43 [(.sl 44),(.sl 47),(.k (.bool true))] []),qn 49 48,qk 50 .gtr 49 0,qm 51 50,⟨(some (51,false)),(some 52),.load 2 true (.sl 2)⟩,⟨(some (51,false)),(some 53),.fad 1 (.sl 3)⟩,⟨(some (51,false)),(some 54),.fad 0 (.sl 53)⟩,⟨(some (51,false)),(some 55),.load 1 false (.sl 54)⟩,⟨(some (51,false)),(some 56),.call 43 [(.sl 52),(.sl 55),(.k (.bool false))] []⟩,⟨(some (51,false)),(some 57),.len (.sl 56)⟩,⟨(some (51,false)),(some 58),.bin .gtr (.sl 57) (.k (.int .i64 0))⟩,qx 59 51 58]
 (qd 59 (qr [ql 60 2 true 2,qe (.stx 2 (.sl 4) (.sl 60)),qi 5 6]
 .ret) .skip))
 (qr [qo 61 (.bsl 72 3 [(.int .i64 0),qN,qN] 0 []),qf 62 0 2,ql 63 1 false 62,qm 64 6,qo 65 (.slc 3 (.sl 63) none (some (.sl 64))),qo 66 (.app 72 3 56 (.sl 61) (.sl 65)),qf 67 0 2,ql 68 1 false 67,qm 69 6,qk 70 .add 69 1,qo 71 (.slc 3 (.sl 68) (some (.sl 70)) none),qo 72 (.app 72 3 56 (.sl 66) (.sl 71)),qf 73 0 2,qe (.stx 1 (.sl 73) (.sl 72))]
 (qr [ql 74 2 true 2,qe (.stx 2 (.sl 4) (.sl 74)),qi 5 0]
 .ret)))) (qr [qk 76 .eql 23 3,qm 75 76]
 (qd 75 (.seq (qr [qm 77 7,qk 78 .geq 77 0]
 (qd 78 (qr [ql 79 2 true 2,qe (.stx 2 (.sl 4) (.sl 79)),qi 5 9]
 .ret) .skip))
 (.seq (qr [ql 80 2 true 2,qf 81 4 3,qf 82 2 81,ql 83 1 false 82,qu 84 83 80 83,qk 85 .lss 84 0,qm 86 85,⟨(some (86,false)),(some 87),.load 2 true (.sl 2)⟩,⟨(some (86,false)),(some 88),.fad 4 (.sl 3)⟩,⟨(some (86,false)),(some 89),.fad 3 (.sl 88)⟩,⟨(some (86,false)),(some 90),.load 1 false (.sl 89)⟩,⟨(some (86,false)),(some 91),.call 83 [(.sl 87),(.sl 90)] []⟩,⟨(some (86,false)),(some 92),.bin .lss (.sl 91) (.k (.int .i64 0))⟩,qx 93 86 92]
 (qd 93 (qr [ql 94 2 true 2,qe (.stx 2 (.sl 4) (.sl 94)),qi 5 5]
 .ret) .skip))
 (.seq (qr [qf 95 1 2,ql 96 1 false 95,qn 97 96,qk 98 .eql 97 400]
 (qd 98 (qr [ql 99 2 true 2,qe (.stx 2 (.sl 4) (.sl 99)),qi 5 4]
 .ret) .skip))
 (.seq (.reg [ql 100 2 true 2,qf 101 4 3,ql 102 5 true 101,qt 103 41 102,qo 104 (.call 64 [(.sl 100),(.sl 103)] [0]),qe (.stx 2 (.sl 4) (.sl 104)),qi 5 0] [(0,3)])
 .ret)))) (qr [qk 106 .eql 23 4,qm 105 106]
 (qd 105 (.seq (qr [qm 107 7,qk 108 .lss 107 0]
 (qd 108 (qr [ql 109 2 true 2,qe (.stx 2 (.sl 4) (.sl 109)),qi 5 5]
 .ret) .skip))
 (qr [qo 110 (.bsl 68 5 [(.int .i64 0),(.str ⟨#[]⟩),(.int .i64 0),(.int .i64 0),qN] 0 []),qf 111 1 2,ql 112 1 false 111,qm 113 7,qo 114 (.slc 5 (.sl 112) none (some (.sl 113))),qo 115 (.app 68 5 64 (.sl 110) (.sl 114)),qf 116 1 2,ql 117 1 false 116,qm 118 7,qk 119 .add 118 1,qo 120 (.slc 5 (.sl 117) (some (.sl 119)) none),qo 121 (.app 68 5 64 (.sl 115) (.sl 120)),qf 122 1 2,qe (.stx 1 (.sl 122) (.sl 121))]
 (qr [ql 123 2 true 2,qe (.stx 2 (.sl 4) (.sl 123)),qi 5 0]
 .ret))) (qr [qk 125 .eql 23 5,qm 124 125]
 (qd 124 (.seq (qr [qm 126 6,qk 127 .lss 126 0]
 (qd 127 (qr [ql 128 2 true 2,qe (.stx 2 (.sl 4) (.sl 128)),qi 5 5]
 .ret) .skip))
 (.seq (.reg [qf 129 0 2,ql 130 1 false 129,qm 131 6,qf 132 1 3,qf 133 1 132,ql 134 1 false 133,qt 135 85 134,qa 136 3 130 131,qf 137 1 136,qe (.stx 1 (.sl 137) (.sl 135))] [(1,6)])
 (qr [ql 138 2 true 2,qe (.stx 2 (.sl 4) (.sl 138)),qi 5 0]
 .ret))) .skip))))))))))))
 (qr [ql 139 2 true 2,ql 140 12 true 3,qo 141 (.call 156 [(.sl 139),(.sl 140)] [0]),qo 142 (.ext (.sl 141) 0),qo 143 (.ext (.sl 141) 1),qe (.stx 2 (.sl 4) (.sl 142)),qm 5 143]
 .ret)))))),[.cell 4 2 true,.tmp 5],true⟩
def F114:bp:=⟨10,0,(
 qr [qo 1 (.box 2 (.sl 0)),qo 2 (.alloc [qN,qN])]
 (.seq (.reg [qf 3 0 1,ql 4 1 false 3,qo 5 (.call 157 [(.sl 4),(.k (.fn 66 []))] []),qf 6 1 1,ql 7 1 false 6,qo 8 (.call 67 [(.sl 7),(.k (.fn 68 []))] []),qo 9 (.build [qN,qN] [(0,1,(.sl 5)),(1,1,(.sl 8))]),qs 2 2 9] [(2,4)])
 .ret)),[.cell 2 2 true],true⟩
def F115:bp:=⟨182,1,(
 qr [qo 3 (.box 12 (.sl 1)),qi 4 0]
 (qg [ql 10 12 true 3,qt 11 158 10,qo 12 (.un .not (.sl 11))] 12 (qi 4 1)
 (.seq (qr [qf 13 0 3,ql 14 1 false 13]
 (.block 0 (qr [qk 16 .eql 14 1,qm 15 16]
 (qd 15 (qg [qm 17 0,qo 18 (.nck (.sl 17)),ql 19 2 true 18,qf 20 1 3,qf 21 0 20,ql 22 1 false 21,qu 23 90 19 22,qk 24 .geq 23 0] 24 (qi 4 9)
 (qg [qm 25 0,qo 26 (.nck (.sl 25)),qf 27 0 26,ql 28 1 false 27,qn 29 28,qk 30 .eql 29 200] 30 (qi 4 4)
 (.reg [qm 31 0,qm 32 0,qo 33 (.nck (.sl 32)),qf 34 0 33,ql 35 1 false 34,qf 36 1 3,ql 37 3 true 36,qt 38 66 37,qo 39 (.call 91 [(.sl 35),(.sl 38),(.k (.fn 159 []))] [0,1]),qo 40 (.nck (.sl 31)),qf 41 0 40,qe (.stx 1 (.sl 41) (.sl 39))] [(4,7)]))) (qr [qk 43 .eql 14 2,qm 42 43]
 (qd 42 (qr [qm 44 0,qo 45 (.nck (.sl 44)),ql 46 2 true 45,qf 47 1 3,qf 48 0 47,ql 49 1 false 48,qu 50 90 46 49,qm 5 50]
 (qg [qm 51 5,qk 52 .lss 51 0] 52 (qi 4 5)
 (.seq (qr [qm 53 0,qo 54 (.nck (.sl 53)),qf 55 1 54,ql 56 1 false 55,qn 57 56,qi 58 0]
 (.block 1 (.loop (qr [qb 59 .lss 58 57]
 (.seq (qd 59 .skip (.exit 1))
 (.seq (.block 2 (qr [qa 60 5 56 58,ql 61 5 true 60,qo 7 (.alloc [(.int .i64 0),(.str ⟨#[]⟩),(.int .i64 0),(.int .i64 0),qN]),qe (.stx 5 (.sl 7) (.sl 61))]
 (qr [qf 62 2 7,ql 63 1 false 62,qf 64 1 3,qf 65 0 64,ql 66 1 false 65,qb 67 .eql 63 66,qm 68 67,⟨(some (68,false)),(some 69),.fad 3 (.sl 7)⟩,⟨(some (68,false)),(some 70),.load 1 false (.sl 69)⟩,⟨(some (68,false)),(some 71),.fad 1 (.sl 3)⟩,⟨(some (68,false)),(some 72),.fad 0 (.sl 71)⟩,⟨(some (68,false)),(some 73),.load 1 false (.sl 72)⟩,⟨(some (68,false)),(some 74),.bin .eql (.sl 70) (.sl 73)⟩,qx 75 68 74]
 (qd 75 (qr [qi 4 6]
 .ret) .skip))))
 (.reg [qk 76 .add 58 1,qm 58 76] [])))))))
 (.reg [qm 77 0,qm 78 0,qo 79 (.nck (.sl 78)),qf 80 0 79,ql 81 1 false 80,qm 82 5,qm 83 5,qk 84 .add 83 1,qo 85 (.call 160 [(.sl 81),(.sl 82),(.sl 84)] [0]),qo 86 (.nck (.sl 77)),qf 87 0 86,qe (.stx 1 (.sl 87) (.sl 85))] [])))) (qr [qk 89 .eql 14 3,qm 88 89]
 (qd 88 (qg [qm 90 0,qo 91 (.nck (.sl 90)),ql 92 2 true 91,qf 93 4 3,qf 94 0 93,ql 95 1 false 94,qu 96 101 92 95,qk 97 .geq 96 0] 97 (qi 4 9)
 (qg [qm 98 0,qo 99 (.nck (.sl 98)),ql 100 2 true 99,qf 101 4 3,qf 102 2 101,ql 103 1 false 102,qu 104 90 100 103,qk 105 .lss 104 0,qm 106 105,⟨(some (106,false)),(some 107),.mv (.sl 0)⟩,⟨(some (106,false)),(some 108),.nck (.sl 107)⟩,⟨(some (106,false)),(some 109),.load 2 true (.sl 108)⟩,⟨(some (106,false)),(some 110),.fad 4 (.sl 3)⟩,⟨(some (106,false)),(some 111),.fad 3 (.sl 110)⟩,⟨(some (106,false)),(some 112),.load 1 false (.sl 111)⟩,⟨(some (106,false)),(some 113),.call 90 [(.sl 109),(.sl 112)] []⟩,⟨(some (106,false)),(some 114),.bin .lss (.sl 113) (.k (.int .i64 0))⟩,qx 115 106 114] 115 (qi 4 5)
 (qg [qm 116 0,qo 117 (.nck (.sl 116)),qf 118 1 117,ql 119 1 false 118,qn 120 119,qk 121 .eql 120 400] 121 (qi 4 4)
 (.reg [qm 122 0,qm 123 0,qo 124 (.nck (.sl 123)),qf 125 1 124,ql 126 1 false 125,qf 127 4 3,ql 128 5 true 127,qt 129 68 128,qo 130 (.call 161 [(.sl 126),(.sl 129),(.k (.fn 162 []))] [0,1]),qo 131 (.nck (.sl 122)),qf 132 1 131,qe (.stx 1 (.sl 132) (.sl 130))] [(4,7)])))) (qr [qk 134 .eql 14 4,qm 133 134]
 (qd 133 (qr [qm 135 0,qo 136 (.nck (.sl 135)),ql 137 2 true 136,qf 138 4 3,qf 139 0 138,ql 140 1 false 139,qu 141 101 137 140,qm 8 141]
 (qg [qm 142 8,qk 143 .lss 142 0] 143 (qi 4 5)
 (.reg [qm 144 0,qm 145 0,qo 146 (.nck (.sl 145)),qf 147 1 146,ql 148 1 false 147,qm 149 8,qm 150 8,qk 151 .add 150 1,qo 152 (.call 163 [(.sl 148),(.sl 149),(.sl 151)] [0]),qo 153 (.nck (.sl 144)),qf 154 1 153,qe (.stx 1 (.sl 154) (.sl 152))] []))) (qr [qk 156 .eql 14 5,qm 155 156]
 (qd 155 (qr [qm 157 0,qo 158 (.nck (.sl 157)),ql 159 2 true 158,qf 160 1 3,qf 161 0 160,ql 162 1 false 161,qu 163 90 159 162,qm 9 163]
 (qg [qm 164 9,qk 165 .lss 164 0] 165 (qi 4 5)
 (.reg [qm 166 0,qo 167 (.nck (.sl 166)),qf 168 0 167,ql 169 1 false 168,qm 170 9,qf 171 1 3,qf 172 1 171,ql 173 1 false 172,qt 174 103 173,qa 175 3 169 170,qf 176 1 175,qe (.stx 1 (.sl 176) (.sl 174))] [(3,8)]))) (qr [qk 178 .eql 14 6,qm 177 178]
 (qd 177 (qr [qm 179 0,ql 180 12 true 3,qo 181 (.call 164 [(.sl 179),(.sl 180)] [0]),qm 4 181]
 .ret) .skip))))))))))))))
 (qr [qi 4 0]
 .ret)))),[.tmp 4],true⟩
def F155:bp:=⟨67,0,(
 qr [qo 1 (.box 12 (.sl 0)),qc 2 (.bool false)]
 (.seq (qr [qf 4 0 1,ql 5 1 false 4]
 (.block 0 (qr [qk 7 .eql 5 1,qm 6 7]
 (qd 6 (qr [qf 8 1 1,ql 9 3 true 8,qt 10 81 9,qm 2 10]
 .ret) (qr [qk 12 .eql 5 2,qm 11 12]
 (qd 11 (qr [qf 13 1 1,qf 14 0 13,ql 15 1 false 14,qt 16 118 15,qm 2 16]
 .ret) (qr [qk 18 .eql 5 3,qm 17 18]
 (qd 17 (qr [qf 19 4 1,ql 20 5 true 19,qt 21 82 20,qm 2 21]
 .ret) (qr [qk 23 .eql 5 4,qm 22 23]
 (qd 22 (qr [qf 24 4 1,qf 25 0 24,ql 26 1 false 25,qt 27 118 26,qm 2 27]
 .ret) (qr [qk 29 .eql 5 5,qm 28 29]
 (qd 28 (qr [qf 30 1 1,qf 31 0 30,ql 32 1 false 31,qt 33 118 32,qm 34 33,⟨(some (34,true)),(some 35),.fad 1 (.sl 1)⟩,⟨(some (34,true)),(some 36),.fad 1 (.sl 35)⟩,⟨(some (34,true)),(some 37),.load 1 false (.sl 36)⟩,⟨(some (34,true)),(some 38),.call 119 [.sl 37] []⟩,qy 39 34 38,qm 2 39]
 .ret) (qr [qk 41 .eql 5 6,qm 40 41]
 (qd 40 (qr [qf 42 9 1,ql 43 1 false 42,qt 44 186 43,qo 45 (.fld 0 1 false (.sl 44)),qm 3 45]
 (qr [qm 46 3,qk 47 .eql 46 8,qm 48 47,⟨(some (48,false)),(some 49),.mv (.sl 3)⟩,⟨(some (48,false)),(some 50),.bin .eql (.sl 49) (.k (.int .i64 9))⟩,qx 51 48 50,qm 52 51,⟨(some (52,true)),(some 53),.fad 10 (.sl 1)⟩,⟨(some (52,true)),(some 54),.load 1 false (.sl 53)⟩,⟨(some (52,true)),(some 55),.call 121 [.sl 54] []⟩,qy 56 52 55,qm 57 56,⟨(some (57,true)),(some 58),.fad 11 (.sl 1)⟩,⟨(some (57,true)),(some 59),.load 1 false (.sl 58)⟩,⟨(some (57,true)),(some 60),.bin .eql (.sl 59) (.k (.str ⟨#[110,117,108,108]⟩))⟩,⟨(some (57,true)),(some 61),.mv (.sl 60)⟩,⟨(some (61,false)),(some 62),.fad 11 (.sl 1)⟩,⟨(some (61,false)),(some 63),.load 1 false (.sl 62)⟩,⟨(some (61,false)),(some 64),.call 167 [.sl 63] []⟩,⟨(some (57,true)),(some 65),.pick (.sl 61) (.k (.bool true)) (.sl 64)⟩,qy 66 57 65,qm 2 66]
 .ret)) .skip))))))))))))))
 (qr [qc 2 (.bool false)]
 .ret))),[.tmp 2],false⟩
def F156:bp:=⟨72,0,(
 qr [qo 2 (.box 2 (.sl 0)),qo 3 (.box 12 (.sl 1)),qo 4 (.alloc [qN,qN]),qi 5 0]
 (qr [qf 9 9 3,ql 10 1 false 9,qt 11 186 10,qo 6 (.alloc [(.int .i64 0),(.int .i64 0),(.int .i64 0),(.str ⟨#[]⟩),qN,qN]),qe (.stx 6 (.sl 6) (.sl 11))]
 (qr [ql 12 2 true 2,qf 13 1 6,ql 14 1 false 13,qu 15 83 12 14,qm 7 15]
 (.seq (qr [qf 16 0 6,ql 17 1 false 16,qk 18 .eql 17 9]
 (qd 18 (.reg [ql 19 2 true 2,qf 20 1 6,ql 21 1 false 20,qu 22 99 19 21,qm 7 22] []) .skip))
 (.seq (qr [qm 23 7,qk 24 .lss 23 0]
 (qd 24 (qr [ql 25 2 true 2,qe (.stx 2 (.sl 4) (.sl 25)),qi 5 5]
 .ret) .skip))
 (qr [qo 26 (.bsl 133 2 [(.str ⟨#[]⟩),(.str ⟨#[]⟩)] 0 []),qm 8 26]
 (.seq (qr [qf 27 0 6,ql 28 1 false 27,qk 29 .eql 28 9]
 (qd 29 (.reg [qf 30 1 2,ql 31 1 false 30,qm 32 7,qa 33 5 31 32,qf 34 4 33,ql 35 1 false 34,qf 36 10 3,ql 37 1 false 36,qf 38 11 3,ql 39 1 false 38,qo 40 (.call 187 [(.sl 35),(.sl 37),(.sl 39)] []),qm 8 40] []) (.reg [qf 41 0 2,ql 42 1 false 41,qm 43 7,qa 44 3 42 43,qf 45 2 44,ql 46 1 false 45,qf 47 10 3,ql 48 1 false 47,qf 49 11 3,ql 50 1 false 49,qo 51 (.call 187 [(.sl 46),(.sl 48),(.sl 50)] []),qm 8 51] [])))
 (.seq (qr [qm 52 8,qn 53 52,qk 54 .gtr 53 20]
 (qd 54 (qr [ql 55 2 true 2,qe (.stx 2 (.sl 4) (.sl 55)),qi 5 4]
 .ret) .skip))
 (.seq (qr [qf 56 0 6,ql 57 1 false 56,qk 58 .eql 57 9]
 (qd 58 (.reg [qf 59 1 2,ql 60 1 false 59,qm 61 7,qm 62 8,qa 63 5 60 61,qf 64 4 63,qe (.stx 1 (.sl 64) (.sl 62))] []) (.reg [qf 65 0 2,ql 66 1 false 65,qm 67 7,qm 68 8,qa 69 3 66 67,qf 70 2 69,qe (.stx 1 (.sl 70) (.sl 68))] [])))
 (qr [ql 71 2 true 2,qe (.stx 2 (.sl 4) (.sl 71)),qi 5 0]
 .ret)))))))))),[.cell 4 2 true,.tmp 5],true⟩
def F157:bp:=⟨22,0,(
 qr [qc 4 qN]
 (qr [qc 5 qN]
 (.seq (qr [qm 8 0,qn 9 8,qi 10 0]
 (.block 0 (.loop (qr [qb 11 .lss 10 9]
 (.seq (qd 11 .skip (.exit 0))
 (.seq (.block 1 (qr [qa 12 3 8 10,ql 13 3 true 12,qo 7 (.alloc [(.int .i64 0),qN,qN]),qs 3 7 13]
 (.reg [qm 14 5,qm 15 1,ql 16 3 true 7,qo 17 (.cval (.sl 15) [.sl 16]),qo 18 (.bsl 72 3 [(.int .i64 0),qN,qN] 1 [(0,3,(.sl 17))]),qo 19 (.app 72 3 56 (.sl 14) (.sl 18)),qm 5 19] [])))
 (.reg [qk 20 .add 10 1,qm 10 20] [])))))))
 (qr [qm 21 5,qm 4 21]
 .ret)))),[.tmp 4],true⟩
def F158:bp:=⟨75,0,(
 qr [qo 1 (.box 12 (.sl 0)),qc 2 (.bool false)]
 (.seq (qr [qf 5 0 1,ql 6 1 false 5]
 (.block 0 (qr [qk 8 .eql 6 1,qm 7 8]
 (qd 7 (qr [qf 9 1 1,ql 10 3 true 9,qt 11 88 10,qm 2 11]
 .ret) (qr [qk 13 .eql 6 2,qm 12 13]
 (qd 12 (qr [qf 14 1 1,qf 15 0 14,ql 16 1 false 15,qt 17 124 16,qm 2 17]
 .ret) (qr [qk 19 .eql 6 3,qm 18 19]
 (qd 18 (qr [qf 20 4 1,ql 21 5 true 20,qt 22 89 21,qm 2 22]
 .ret) (qr [qk 24 .eql 6 4,qm 23 24]
 (qd 23 (qr [qf 25 4 1,qf 26 0 25,ql 27 1 false 26,qt 28 124 27,qm 2 28]
 .ret) (qr [qk 30 .eql 6 5,qm 29 30]
 (qd 29 (qr [qf 31 1 1,qf 32 0 31,ql 33 1 false 32,qt 34 124 33,qm 35 34,⟨(some (35,true)),(some 36),.fad 1 (.sl 1)⟩,⟨(some (35,true)),(some 37),.fad 1 (.sl 36)⟩,⟨(some (35,true)),(some 38),.load 1 false (.sl 37)⟩,⟨(some (35,true)),(some 39),.call 125 [(.sl 38),(.k (.int .i64 10))] []⟩,qy 40 35 39,qm 2 40]
 .ret) (qr [qk 42 .eql 6 6,qm 41 42]
 (qd 41 (qr [qf 44 9 1,ql 45 1 false 44,qt 46 188 45,qm 43 46,qo 47 (.ext (.sl 43) 0),qo 48 (.ext (.sl 43) 1),qo 3 (.alloc [(.int .i64 0),(.int .i64 0),(.int .i64 0),(.str ⟨#[]⟩),qN,qN]),qs 6 3 47,qm 4 48]
 (qr [qm 49 4,qm 50 49,⟨(some (50,true)),(some 51),.fad 0 (.sl 3)⟩,⟨(some (50,true)),(some 52),.load 1 false (.sl 51)⟩,⟨(some (50,true)),(some 53),.bin .eql (.sl 52) (.k (.int .i64 8))⟩,⟨(some (50,true)),(some 54),.mv (.sl 53)⟩,⟨(some (54,false)),(some 55),.fad 0 (.sl 3)⟩,⟨(some (54,false)),(some 56),.load 1 false (.sl 55)⟩,⟨(some (54,false)),(some 57),.bin .eql (.sl 56) (.k (.int .i64 9))⟩,⟨(some (50,true)),(some 58),.pick (.sl 54) (.k (.bool true)) (.sl 57)⟩,qy 59 50 58,qm 60 59,⟨(some (60,true)),(some 61),.fad 10 (.sl 1)⟩,⟨(some (60,true)),(some 62),.load 1 false (.sl 61)⟩,⟨(some (60,true)),(some 63),.call 127 [.sl 62] []⟩,qy 64 60 63,qm 65 64,⟨(some (65,true)),(some 66),.fad 11 (.sl 1)⟩,⟨(some (65,true)),(some 67),.load 1 false (.sl 66)⟩,⟨(some (65,true)),(some 68),.bin .eql (.sl 67) (.k (.str ⟨#[110,117,108,108]⟩))⟩,⟨(some (65,true)),(some 69),.mv (.sl 68)⟩,⟨(some (69,false)),(some 70),.fad 11 (.sl 1)⟩,⟨(some (69,false)),(some 71),.load 1 false (.sl 70)⟩,⟨(some (69,false)),(some 72),.call 171 [.sl 71] []⟩,⟨(some (65,true)),(some 73),.pick (.sl 69) (.k (.bool true)) (.sl 72)⟩,qy 74 65 73,qm 2 74]
 .ret)) .skip))))))))))))))
 (qr [qc 2 (.bool false)]
 .ret))),[.tmp 2],false⟩
def F159:bp:=⟨5,0,(
 qr [qo 1 (.box 3 (.sl 0)),qi 2 0]
 (qr [qf 3 0 1,ql 4 1 false 3,qm 2 4]
 .ret)),[.tmp 2],false⟩
def F161:bp:=⟨31,0,(
 qr [qo 4 (.box 5 (.sl 1)),qc 6 qN]
 (qr [qi 7 0]
 (.seq (.block 0 (.loop (.seq (.seq (.reg [qm 8 7,qm 9 0,qn 10 9,qb 11 .lss 8 10,qm 12 11,⟨(some (12,true)),(some 13),.mv (.sl 2)⟩,⟨(some (12,true)),(some 14),.mv (.sl 0)⟩,⟨(some (12,true)),(some 15),.mv (.sl 7)⟩,⟨(some (12,true)),(some 16),.iad 5 (.sl 14) (.sl 15)⟩,⟨(some (12,true)),(some 17),.load 5 true (.sl 16)⟩,⟨(some (12,true)),(some 18),.cval (.sl 13) [.sl 17]⟩,⟨(some (12,true)),(some 19),.mv (.sl 2)⟩,⟨(some (12,true)),(some 20),.load 5 true (.sl 4)⟩,⟨(some (12,true)),(some 21),.cval (.sl 19) [.sl 20]⟩,⟨(some (12,true)),(some 22),.bin .lss (.sl 18) (.sl 21)⟩,qy 23 12 22] [(10,12)])
 (qd 23 .skip (.exit 0)))
 (.block 1 (.reg [qm 24 7,qk 25 .add 24 1,qm 7 25] [])))))
 (qr [qm 26 0,qm 27 7,ql 28 5 true 4,qo 29 (.bsl 68 5 [(.int .i64 0),(.str ⟨#[]⟩),(.int .i64 0),(.int .i64 0),qN] 1 [(0,5,(.sl 28))]),qo 30 (.call 189 [(.sl 26),(.sl 27),(.sl 29)] [0,2]),qm 6 30]
 .ret)))),[.tmp 6],true⟩
def F162:bp:=⟨5,0,(
 qr [qo 1 (.box 5 (.sl 0)),qi 2 0]
 (qr [qf 3 0 1,ql 4 1 false 3,qm 2 4]
 .ret)),[.tmp 2],false⟩
def F164:bp:=⟨69,1,(
 qr [qo 3 (.box 12 (.sl 1)),qi 4 0]
 (qr [qf 13 9 3,ql 14 1 false 13,qt 15 188 14,qm 12 15,qo 16 (.ext (.sl 12) 0),qo 17 (.ext (.sl 12) 1),qo 5 (.alloc [(.int .i64 0),(.int .i64 0),(.int .i64 0),(.str ⟨#[]⟩),qN,qN]),qe (.stx 6 (.sl 5) (.sl 16)),qm 6 17]
 (qr [qo 18 (.bsl 133 2 [(.str ⟨#[]⟩),(.str ⟨#[]⟩)] 0 []),qo 19 (.box 1 (.sl 18)),qm 7 19]
 (.seq (qr [qf 20 0 5,ql 21 1 false 20,qk 22 .eql 21 8]
 (qd 22 (qr [qm 23 0,qo 24 (.nck (.sl 23)),ql 25 2 true 24,qf 26 1 5,ql 27 1 false 26,qu 28 90 25 27,qm 8 28]
 (qg [qm 29 8,qk 30 .lss 29 0] 30 (qi 4 5)
 (.reg [qm 31 0,qo 32 (.nck (.sl 31)),qf 33 0 32,ql 34 1 false 33,qm 35 8,qa 36 3 34 35,qf 37 2 36,qm 7 37] []))) (qr [qm 38 0,qo 39 (.nck (.sl 38)),ql 40 2 true 39,qf 41 1 5,ql 42 1 false 41,qu 43 101 40 42,qm 9 43]
 (qg [qm 44 9,qk 45 .lss 44 0] 45 (qi 4 5)
 (.reg [qm 46 0,qo 47 (.nck (.sl 46)),qf 48 1 47,ql 49 1 false 48,qm 50 9,qa 51 5 49 50,qf 52 4 51,qm 7 52] [])))))
 (qr [qm 54 7,qo 55 (.nck (.sl 54)),ql 56 1 false 55,qf 57 10 3,ql 58 1 false 57,qf 59 11 3,ql 60 1 false 59,qo 61 (.call 190 [(.sl 56),(.sl 58),(.sl 60)] []),qm 53 61,qo 62 (.ext (.sl 53) 0),qo 63 (.ext (.sl 53) 1),qm 10 62,qm 11 63]
 (qg [qm 64 11,qo 65 (.un .not (.sl 64))] 65 (qi 4 4)
 (qr [qm 66 7,qm 67 10,qo 68 (.nck (.sl 66)),qe (.stx 1 (.sl 68) (.sl 67))]
 (qr [qi 4 0]
 .ret)))))))),[.tmp 4],true⟩
def F187:bp:=⟨40,0,(
 qr [qc 6 qN]
 (qr [qo 9 (.bsl 133 2 [(.str ⟨#[]⟩),(.str ⟨#[]⟩)] 0 []),qm 7 9]
 (.seq (qr [qi 8 0]
 (.block 0 (.loop (.seq (qr [qm 10 8,qm 11 0,qn 12 11,qb 13 .lss 10 12]
 (qd 13 .skip (.exit 0)))
 (.seq (.block 1 (qr [qm 16 0,qm 17 8,qa 18 2 16 17,qf 19 0 18,ql 20 1 false 19,qm 21 1,qb 22 .neq 20 21]
 (qd 22 (.reg [qm 23 7,qm 24 0,qm 25 8,qa 26 2 24 25,ql 27 2 true 26,qo 28 (.bsl 133 2 [(.str ⟨#[]⟩),(.str ⟨#[]⟩)] 1 [(0,2,(.sl 27))]),qo 29 (.app 133 2 32 (.sl 23) (.sl 28)),qm 7 29] []) .skip)))
 (.reg [qm 14 8,qk 15 .add 14 1,qm 8 15] []))))))
 (.seq (qr [qm 30 2,qo 31 (.bin .eql (.sl 30) (.k (.str ⟨#[110,117,108,108]⟩)))]
 (qd 31 (qr [qm 32 7,qm 6 32]
 .ret) .skip))
 (qr [qm 33 7,qm 34 1,qm 35 2,qo 36 (.build [(.str ⟨#[]⟩),(.str ⟨#[]⟩)] [(0,1,(.sl 34)),(1,1,(.sl 35))]),qo 37 (.bsl 133 2 [(.str ⟨#[]⟩),(.str ⟨#[]⟩)] 1 [(0,2,(.sl 36))]),qo 38 (.app 133 2 32 (.sl 33) (.sl 37)),qt 39 132 38,qm 6 39]
 .ret))))),[.tmp 6],false⟩
def F190:bp:=⟨55,0,(
 qr [qc 6 qN,qc 7 (.bool false)]
 (qr [qc 8 qN]
 (qr [qm 12 2,qo 13 (.bin .eql (.sl 12) (.k (.str ⟨#[110,117,108,108]⟩))),qm 9 13]
 (.seq (qr [qm 14 0,qn 15 14,qi 16 0]
 (.block 0 (.loop (qr [qb 17 .lss 16 15]
 (.seq (qd 17 .skip (.exit 0))
 (.seq (.block 1 (qr [qa 18 2 14 16,ql 19 2 true 18,qo 11 (.alloc [(.str ⟨#[]⟩),(.str ⟨#[]⟩)]),qs 2 11 19]
 (.seq (qr [qm 20 9,qo 21 (.un .not (.sl 20)),qm 22 21,⟨(some (22,true)),(some 23),.fad 0 (.sl 11)⟩,⟨(some (22,true)),(some 24),.load 1 false (.sl 23)⟩,⟨(some (22,true)),(some 25),.mv (.sl 1)⟩,⟨(some (22,true)),(some 26),.bin .geq (.sl 24) (.sl 25)⟩,qy 27 22 26]
 (qd 27 (qr [qm 28 8,qm 29 1,qm 30 2,qo 31 (.build [(.str ⟨#[]⟩),(.str ⟨#[]⟩)] [(0,1,(.sl 29)),(1,1,(.sl 30))]),qo 32 (.bsl 133 2 [(.str ⟨#[]⟩),(.str ⟨#[]⟩)] 1 [(0,2,(.sl 31))]),qo 33 (.app 133 2 32 (.sl 28) (.sl 32)),qm 8 33]
 (.reg [qc 9 (.bool true)] [])) .skip))
 (qr [qf 34 0 11,ql 35 1 false 34,qm 36 1,qb 37 .neq 35 36]
 (qd 37 (.reg [qm 38 8,ql 39 2 true 11,qo 40 (.bsl 133 2 [(.str ⟨#[]⟩),(.str ⟨#[]⟩)] 1 [(0,2,(.sl 39))]),qo 41 (.app 133 2 32 (.sl 38) (.sl 40)),qm 8 41] []) .skip)))))
 (.reg [qk 42 .add 16 1,qm 16 42] [])))))))
 (.seq (qr [qm 43 9,qo 44 (.un .not (.sl 43))]
 (qd 44 (.reg [qm 45 8,qm 46 1,qm 47 2,qo 48 (.build [(.str ⟨#[]⟩),(.str ⟨#[]⟩)] [(0,1,(.sl 46)),(1,1,(.sl 47))]),qo 49 (.bsl 133 2 [(.str ⟨#[]⟩),(.str ⟨#[]⟩)] 1 [(0,2,(.sl 48))]),qo 50 (.app 133 2 32 (.sl 45) (.sl 49)),qm 8 50] []) .skip))
 (qr [qm 51 8,qm 52 8,qn 53 52,qk 54 .leq 53 20,qm 6 51,qm 7 54]
 .ret)))))),[.tmp 6,.tmp 7],true⟩
def T:Nat->Option bp
 |6=>some F6
 |29=>some F29
 |30=>some F30
 |31=>some F31
 |32=>some F32
 |33=>some F33
 |35=>some F35
 |63=>some F63
 |64=>some F64
 |67=>some F67
 |74=>some F74
 |75=>some F75
 |76=>some F76
 |77=>some F77
 |78=>some F78
 |112=>some F112
 |113=>some F113
 |114=>some F114
 |115=>some F115
 |155=>some F155
 |156=>some F156
 |157=>some F157
 |158=>some F158
 |159=>some F159
 |161=>some F161
 |162=>some F162
 |164=>some F164
 |187=>some F187
 |190=>some F190
 |8=>some F8
 |10=>some F10
 |13=>some F13
 |14=>some F14
 |38=>some F38
 |39=>some F39
 |40=>some F40
 |41=>some F41
 |42=>some F42
 |43=>some F43
 |44=>some F44
 |45=>some F45
 |46=>some F46
 |48=>some F48
 |49=>some F49
 |52=>some F52
 |53=>some F53
 |59=>some F59
 |60=>some F60
 |61=>some F61
 |66=>some F66
 |68=>some F68
 |79=>some F79
 |80=>some F80
 |81=>some F81
 |82=>some F82
 |83=>some F83
 |84=>some F84
 |85=>some F85
 |86=>some F86
 |87=>some F87
 |88=>some F88
 |89=>some F89
 |90=>some F90
 |91=>some F91
 |93=>some F93
 |94=>some F94
 |98=>some F98
 |103=>some F103
 |108=>some F108
 |116=>some F116
 |117=>some F117
 |118=>some F118
 |119=>some F119
 |120=>some F120
 |121=>some F121
 |122=>some F122
 |123=>some F123
 |124=>some F124
 |125=>some F125
 |126=>some F126
 |127=>some F127
 |129=>some F129
 |130=>some F130
 |165=>some F165
 |166=>some F166
 |167=>some F167
 |168=>some F168
 |169=>some F169
 |170=>some F170
 |171=>some F171
 |172=>some F172
 |173=>some F173
 |176=>some F176
 |186=>some F186
 |188=>some F188
 |191=>some F191
 |192=>some F192
 |200=>some F200
 |201=>some F201
 |209=>some F209
 |210=>some F210
 |211=>some F211
 |212=>some F212
 |213=>some F213
 |214=>some F214
 |215=>some F215
 |216=>some F216
 |217=>some F217
 |218=>some F218
 |219=>some F219
 |220=>some F220
 |221=>some F221
 |222=>some F222
 |223=>some F223
 |224=>some F224
 |225=>some F225
 |226=>some F226
 |227=>some F227
 |231=>some F231
 |232=>some F232
 |233=>some F233
 |234=>some F234
 |235=>some F235
 |236=>some F236
 |237=>some F237
 |238=>some F238
 |240=>some F240
 |241=>some F241
 |242=>some F242
 |244=>some F244
 |245=>some F245
 |248=>some F248
 |1000014=>some FB14
 |1000034=>some FB34
 |1000050=>some FB50
 |1000051=>some FB51
 |1000057=>some FB57
 |1000058=>some FB58
 |1000020=>some FB20
 |19=>some F19
 |56=>some F56
 |99=>some F99
 |101=>some F101
 |132=>some F132
 |_=>none
def iF(cf:aA):Prop:=∀ f F,T f=some F->G4 cf f F
def OB:
  (∀ {k:IntKind} {a b:Int},dS .lss (.int k a) (.int k b)=some (.bool (decide (a<b))))/\(∀ {k:IntKind} {a b:Int},dS .leq (.int k a) (.int k b)=some (.bool (decide (a<=b))))/\
  (∀ {k:IntKind} {a b:Int},dS .gtr (.int k a) (.int k b)=some (.bool (decide (b<a))))/\(∀ {k:IntKind} {a b:Int},dS .geq (.int k a) (.int k b)=some (.bool (decide (b<=a))))/\
  (∀ {k:IntKind} {a b:Int},dS .eql (.int k a) (.int k b)=some (.bool (decide (a=b))))/\(∀ {k:IntKind} {a b:Int},dS .neq (.int k a) (.int k b)=some (.bool (decide (a≠b))))/\
  (∀ {k:IntKind} {a b:Int},dS .add (.int k a) (.int k b)=some (.int k (k.wrap (a+b))))/\(∀ {k:IntKind} {a b:Int},dS .sub (.int k a) (.int k b)=some (.int k (k.wrap (a-b))))/\(∀ {k:IntKind} {a b:Int},dS .mul (.int k a) (.int k b)=some (.int k (k.wrap (a*b))))/\
  (∀ {s t:List UInt8},dS .eql (S s) (S t)=some (.bool (decide (s=t))))/\(∀ {s t:List UInt8},dS .neq (S s) (S t)=some (.bool (decide (s≠t))))/\(∀ {s t:List UInt8},dS .lss (S s) (S t)=some (.bool (eq s t)))/\
  (∀ {s t:List UInt8},dS .geq (S s) (S t)=some (.bool !(eq s t)))/\(∀ {s t:List UInt8},dS .gtr (S s) (S t)=some (.bool !(eq s t||decide (s=t))))/\(∀ {s t:List UInt8},dS .leq (S s) (S t)=some (.bool (eq s t||decide (s=t))))/\
  (∀ {s t:List UInt8},s.length+t.length<=9223372036854775807->dS .add (S s) (S t)=some (S (s++t)))/\
  (∀ {x:Bool},vr .not (.bool x)=some (.bool !x))/\(∀ {k:IntKind} {a:Int},vr .neg (.int k a)=some (.int k (k.wrap (-a))))/\
  (∀ {a:Int},-9223372036854775808<=a->a<=9223372036854775807->IntKind.i64.wrap a=a)/\(∀ {a:Int},0<=a->a<=255->IntKind.u8.wrap a=a)/\
  (∀ {l:List UInt8} {j:Int} {st:St},0<=j->j.toNat<l.length->B1 (S l) (I j) st=some (U (cI l j.toNat),st))/\
  (∀ {l:List UInt8} {j:Int} {st:St},0<=j->j<=(l.length:Int)->p4 (S l) (some (I j)) none st=some (S (l.drop j.toNat),st))/\
  (∀ {l:List UInt8} {j:Int} {st:St},0<=j->j<=(l.length:Int)->p4 (S l) none (some (I j)) st=some (S (l.take j.toNat),st))/\
  (∀ {l:List UInt8} {a b:Int} {st:St},0<=a->a<=b->b<=(l.length:Int)->p4 (S l) (some (I a)) (some (I b)) st=some (S ((l.take b.toNat).drop a.toNat),st))/\
  (∀ {sz n:Nat} {cs:List PV} {t:aB} {j:Int} {st:St},0<=j->j<(n:Int)->cs.length=n*sz->uX sz (.list n cs t) (I j) st=some (.iptr cs (j.toNat*sz) (t.elt n),st))/\
  (∀ {sz e sz' s n:Nat} {j:Int} {st:St},0<=j->j<(n:Int)->uX sz (.osl e sz' s n) (I j) st=some (.ptr s (j.toNat*sz),st))/\
  (kE .ret↔True)/\(kE .go↔True)/\
  (∀ {ns:List Nat} {c:List PV} {cs:List (List PV)},(bn ns (c::cs)).objs 0=some c)/\(∀ {n:Nat},aB.elt n .no= .no):=
 ⟨Oi,Oj,Ol,Om,On,Og,Oo,Of,Oh,NW,NR,NS,NV,NU,NT,NY,NL,NM,wrap_i64,Es,Je,Lo,Lp,Hi,If,J8,Iff.rfl,Iff.rfl,rfl,rfl⟩
def pa:type_of% (And.intro Ox (And.intro OC (And.intro OA MG))):=And.intro Ox (And.intro OC (And.intro OA MG))
def pb:type_of% (And.intro Ow (And.intro Oz (And.intro Oy (And.intro OD OB)))):=And.intro Ow (And.intro Oz (And.intro Oy (And.intro OD OB)))
section
variable {cf:aA} {f:Nat} {F:bp} {as:List PV} {r q:PV} {t t2:Nat} {st:St}
def cQ(K:iF cf)(hT:T f=some F)(hres:F.res=[.tmp t])(hown:F.own=false)(hnt:as.length<=F.nt)(has:∀ p∈as,cT p)(hr:qJ r)(N:Nat)(h:Wp cf N F.body (eu as,bn [] []) (fun e y=>kE e/\y.1 t=r)):av cf f as [] st=some (r,st):=
 rv has hr (MU (K f F hT) hres hown hnt hr.plain N h)
def zK(K:iF cf)(hT:T f=some F)(hres:F.res=[.tmp t])(hown:F.own=false)(hnt:as.length+1<=F.nt)(hnk:1<=F.nk)(has:∀ p∈as,cT p)(hr:qJ r){s:Nat}{c c':List PV}(hs:st.objs s=some c)(hc:cK c)(hc':qY c')(N:Nat)
  (h:Wp cf N F.body (eu (.ptr 0 0::as),bn [] [c]) (fun e y=>kE e/\y.1 t=r/\y.2.objs 0=some c')):av cf f (.ptr s 0::as) [] st=some (r,bP st s c'):=
 Kl hs hc hc' has hr (MV (K f F hT) hres hown hnt hnk hr.plain hc'.plain N h)
end
mutual
theorem sU(f:Nat->Option Nat)(s:Bool):∀ p:PV,ren f s (ren (fun _=>none) true p)=ren (fun _=>none) true p
 | .list n cs t=>by
  simp only[ren,jT f s cs];cases t<;>rfl
 | .iptr cs o t=>by
  simp only[ren,jT f s cs];cases t<;>rfl
 | .agg cs=>by simp only[ren,jT f s cs]
 | .tup cs=>by simp only[ren,jT f s cs]
 | .fn g cs=>by simp only[ren,jT f s cs]
 | .any| .hole| .int _ _| .bool _| .str _| .nilp| .nili| .err| .ptr _ _| .osl _ _ _ _| .mp _=>rfl
theorem jT(f:Nat->Option Nat)(s:Bool):∀ ps:List PV,aZ f s (aZ (fun _=>none) true ps)=aZ (fun _=>none) true ps
 | []=>rfl
 |p::ps=>by simp only[aZ,sU f s p,jT f s ps]
end
def JL(p:PV):np (aC p)=np p:=by simp only[np,aC,gn]
def kj:PV->Bool
 | .osl .. =>false
 | .ptr .. =>false
 |_=>true
def mQ(nk:Nat)(st:St):∀ (ps:List PV),(∀ p∈ps,kj p=true)->cL nk ps st=(ps,st)
 | [],_=>by rw[cL]
 |p::ps,h=>by
  have ih:=mQ nk st ps fun q hq=>h q (by simp[hq]);have hp:=h p (by simp);cases p<;>first|exact absurd hp Bool.false_ne_true|(rw[cL,ih];intros;simp_all)
def eQ:List PV->Bool
 | []=>true
 |p::ps=>np p && kj p && eQ ps
def qV:∀ {ps:List PV},eQ ps=true->(∀ p∈ps,kj p=true)/\aI ps=true
 | [],_=>⟨by simp,rfl⟩
 |p::ps,h=>by
  simp only[eQ,ae]at h;obtain⟨h1,h2⟩:=qV h.2;refine⟨fun q hq=>?_,?_⟩
  ·rcases aX.1 hq with rfl|hq
   ·exact h.1.2
   ·exact h1 q hq
  have a:off (fun _=>true) p=true:=h.1.1;have b:dh (fun _=>true) ps=true:=h2;simp only[aI,dh,a,b,ap]
def sv{ps:List PV}(h:eQ ps=true):np (fw ps)=true:=by
 have h2:=(qV h).2
 match ps with
 | []=>rfl
 | [p]=>simp only[eQ,ae]at h;exact h.1.1
 |p::q::ps=>exact h2
def uZ{F:bp}{n:Nat}{fr:Fr}{st:St}{ps0:List PV}{cs0:List (List PV)}(hown:F.own=false)(h:ff fr st F.res=some ps0)(hp:eQ ps0=true)(hcs:dl st (List.range n)=some cs0)(hc:cs0.all aI=true):
  gN F n fr st=some (aC (fw ps0),[],cs0.map aF):=by
 simp only[gN,h,hcs,mQ F.nk st ps0 (qV hp).1,sv hp,hc,ap,if_true,kB,hown,g8,bG,if_false]
def u7:Option PV->Option (List PV)->Option (List PV)
 |some p,some ps=>some (p::ps)
 |_,_=>none
def wc(cs:Option (List PV))(off sz:Nat)(ag:Bool):Option PV:=match cs with
 |some cs=>bI cs off sz ag
 |none=>none
def ve(p:PV)(sz:Nat)(ag:Bool)(st:St):Option PV:=match p with
 | .ptr s off=>wc (st.objs s) off sz ag
 | .iptr cs off _=>bI cs off sz ag
 |_=>none
def x8(Q:PV->List PV->Prop):Option (List PV)->Option (List PV)->Prop
 |some ps,some c=>eQ ps=true/\aI c=true/\Q (aC (fw ps)) (aF c)
 |_,_=>False
def G7(rs:List hZ)(Q:PV->List PV->Prop)(e:Ex)(y:Fr×St):Prop:=kE e/\x8 Q (ff y.1 y.2 rs) (y.2.objs 0)
def zT(rs:List hZ)(Q:PV->Prop)(e:Ex)(y:Fr×St):Prop:=kE e/\x8 (fun p _=>Q p) (ff y.1 y.2 rs) (some [])
def cZ(st:St)(v:Nat):St:={st with fl:=v}
section
variable {cf:aA} {f:Nat} {F:bp} {as:List PV} {st:St} {rs:List hZ}
def uV{s:Nat}(h:as.all bR=true):cX (.ptr s 0::as)=some [s]:=by
 simp only[cX,fj h];simp
def Gu{s:Nat}(h:as.all bR=true):eX [] [] 0 0 (.ptr s 0::as)= .ptr 0 0::as.map aC:=by
 simp only[eX,jl _ _ h]
def gA(K:iF cf)(hT:T f=some F)(hres:F.res=rs)(hown:F.own=false)(hnt:as.length+1<=F.nt)(hnk:1<=F.nk)(has:∀ p∈as,cT p){s:Nat}{c:List PV}(hs:st.objs s=some c)(hc:cK c)(N:Nat){Q:PV->List PV->Prop}
  (h:Wp cf N F.body (eu (.ptr 0 0::as),bn [] [c]) (G7 rs Q)):∃ r c',Q r c'/\∃ fl,av cf f (.ptr s 0::as) [] st=some (r,cZ (bP st s c') fl):=by
 obtain⟨e,⟨fr,s1⟩,hev,he,ho⟩:=h;obtain⟨h1,h2⟩:=dE has;subst hres;revert ho;generalize hps:ff fr s1 F.res=o1;generalize hcc:s1.objs 0=o2;intro ho
 match o1,o2,ho with
 |some ps0,some c1,ho=>
  obtain⟨hp,hn,hQ⟩:=ho;have hcs:dl s1 (List.range [c].length)=some [c1]:=by
   have:List.range [c].length=[0]:=rfl;rw[this];simp only[dl,hcc]
  have hf:=uZ (n:=[c].length) hown hps hp hcs (by simp[hn]);have hrun:fO cf N F (.ptr 0 0::as) [] [c]=some (aC (fw ps0),[],[aF c1]):=by
   unfold fO;rw[ak ⟨by simpa using hnt,by simpa using hnk⟩,hev];cases e with
   |go=>exact hf
   |ret=>exact hf
   |exit i=>exact he.elim
  have hcf:=K f F hT N _ _ _ _ hrun;refine⟨_,_,hQ,(if(ft (aC (fw ps0)) && [aF c1].all fo)||oy f (.ptr s 0::as) [c]then st.fl else st.nx),?_⟩
  ·simp only[av,uV h1,dl,hs,Gu h1,h2,aH,bM,hc.2.1,hcf,au,aO,if_true];congr 1;refine Prod.ext (sU _ _ _) ?_;have hr:aZ (fun k=>some (st.nx+k)) false (aF c1)=aF c1:=jT _ _ _;simp only[hr];rfl
mutual
theorem Ey:∀ (p:PV),aC p=p->tf (fun _=>true) p=true
 | .list n cs t,h=>by
  simp only[aC,gK]at h;injection h with _ h1 h2;have:=oX cs h1;cases t<;>simp_all [tf,aB.free,aB.of,aB.ren]
 | .iptr cs o t,h=>by
  simp only[aC,si]at h;injection h with h1 _ h2;have:=oX cs h1;cases t<;>simp_all [tf,aB.free,aB.of,aB.ren]
 | .agg cs,h=>by
  simp only[aC,ren]at h;injection h with h1;simp[tf,oX cs h1]
 | .tup cs,h=>by
  simp only[aC,ren]at h;injection h with h1;simp[tf,oX cs h1]
 | .fn g cs,h=>by
  simp only[aC,ren]at h;injection h with _ h1;simp[tf,oX cs h1]
 | .ptr _ _,_=>rfl
 | .osl _ _ _ _,_=>rfl
 | .mp _,_=>rfl
 | .any,_=>rfl
 | .hole,_=>rfl
 | .int _ _,_=>rfl
 | .bool _,_=>rfl
 | .str _,_=>rfl
 | .nilp,_=>rfl
 | .nili,_=>rfl
 | .err,_=>rfl
theorem oX:∀ (ps:List PV),aF ps=ps->dw (fun _=>true) ps=true
 | [],_=>rfl
 |p::ps,h=>by
  simp only[aF,aZ]at h;injection h with h1 h2;simp[dw,Ey p h1,oX ps h2]
end
def ou(K:iF cf)(hT:T f=some F)(hres:F.res=rs)(hown:F.own=false)(hnt:as.length<=F.nt)(has:∀ p∈as,cT p)(N:Nat){Q:PV->Prop}
  (h:Wp cf N F.body (eu as,bn [] []) (zT rs Q)):∃ r,Q r/\∃ fl,av cf f as [] st=some (r,cZ st fl):=by
 obtain⟨e,⟨fr,s1⟩,hev,he,ho⟩:=h;obtain⟨h1,h2⟩:=dE has;subst hres;revert ho;generalize hps:ff fr s1 F.res=o1;intro ho
 match o1,ho with
 |some ps0,ho=>
  obtain⟨hp,-,hQ⟩:=ho;have hf:=uZ (n:=0) (cs0:=[]) hown hps hp rfl rfl;have hrun:fO cf N F as [] []=some (aC (fw ps0),[],[]):=by
   unfold fO;rw[ak ⟨hnt,aM _⟩,hev];cases e with
   |go=>exact hf
   |ret=>exact hf
   |exit i=>exact he.elim
  have hcf:=K f F hT N _ _ _ _ hrun;refine⟨_,hQ,(if ft (aC (fw ps0))||(nj f && as.all (tf fun _=>true))then st.fl else st.nx),?_⟩
  ·rw[ot h1 (by rw[h2];exact hcf)];congr 1;refine Prod.ext (sU _ _ _) rfl
def KU{o:Option (PV×St)}{mk:PV->St->Fr×St}{A:Fr×St->Prop}{Q:PV->List PV->Prop}{m:List PV->Nat->St}(h:∃ r c',Q r c'/\∃ fl,o=some (r,m c' fl))(k:∀ r c' fl,Q r c'->A (mk r (m c' fl))):cP o mk A:=by
 obtain⟨r,c',hQ,fl,rfl⟩:=h;exact⟨_,_,rfl,k r c' fl hQ⟩
def wI{o:Option (PV×St)}{mk:PV->St->Fr×St}{A:Fr×St->Prop}{Q:PV->Prop}{m:Nat->St}(h:∃ r,Q r/\∃ fl,o=some (r,m fl))(k:∀ r fl,Q r->A (mk r (m fl))):cP o mk A:=by
 obtain⟨r,hQ,fl,rfl⟩:=h;exact⟨_,_,rfl,k r fl hQ⟩
end
def Gr(e nx:Nat)(cnt:Nat->Nat)(n:Nat):aB->Prop
 | .nil=>n=0
 | .full e'=>e'=e/\n=0
 | .own k e'=>k<nx/\cnt k=n/\e'=e
 |_=>False
def dU(e:Nat)(t:aB)(st:St):aB:=match t with
 | .own k _=> .own k e
 |_=> .own st.nx e
def dV(t:aB)(st:St)(n:Nat):St:=match t with
 | .own k _=>st.count k n
 |_=>st.more [n]
def sJ(e sz bytes:Nat)(x y:PV)(st:St):Option (PV×St):=match x,y with
 | .list n cs t,.list m ds _=>
  if hH st n t=true/\cs.length=n*sz/\ds.length=m*sz/\(n+m) *bytes<=dB/\n+m<=dB/\0<sz then
   match t with
   | .own k e'=>if e'=e then some (.list (n+m) (cs++ds) (.own k e),st.count k (n+m))else none
   | .full e'=>if e'=e/\(0<m\/n=0)then some (.list (n+m) (cs++ds) (.own st.nx e),st.more [n+m])else none
   |_=>some (.list (n+m) (cs++ds) (.own st.nx e),st.more [n+m])
  else none
 |_,_=>none
def xj{e sz bytes n m:Nat}{cs ds:List PV}{t u:aB}{st:St}(h:Gr e st.nx st.cnt n t)(h1:cs.length=n*sz)(h2:ds.length=m*sz)(h3:(n+m) *bytes<=140737488355328)(h4:n+m<=140737488355328)(h5:0<sz):
  sJ e sz bytes (.list n cs t) (.list m ds u) st=some (.list (n+m) (cs++ds) (dU e t st),dV t st (n+m)):=by
 have hb:dB=140737488355328:=rfl;cases t with
 |no=>exact h.elim
 |sub k=>exact h.elim
 |el k e n=>exact h.elim
 |nil=>
  have h:n=0:=h;subst h;simp[sJ,hH,h1,h2,hb,h5,dU,dV];exact⟨by simpa using h3,by simpa using h4⟩
 |full e'=>
  obtain⟨h,hn⟩:e'=e/\n=0:=h;subst h;subst hn;simp[sJ,hH,h1,h2,hb,h5,dU,dV];exact⟨by simpa using h3,by simpa using h4⟩
 |own k e'=>
  obtain⟨ha,hb',rfl⟩:k<st.nx/\st.cnt k=n/\e'=e:=h;simp[sJ,hH,h1,h2,hb,h3,h4,h5,ha,hb',dU,dV]
def di{e n m:Nat}{t:aB}{st:St}(h:Gr e st.nx st.cnt n t):Gr e (dV t st (n+m)).nx (dV t st (n+m)).cnt (n+m) (dU e t st):=by
 cases t with
 |no=>exact h.elim
 |sub k=>exact h.elim
 |el k e n=>exact h.elim
 |nil=>exact⟨by simp[dV,St.more],by simp[dV,St.more],rfl⟩
 |full e'=>exact⟨by simp[dV,St.more],by simp[dV,St.more],rfl⟩
 |own k e'=>
  obtain⟨ha,hb',rfl⟩:k<st.nx/\st.cnt k=n/\e'=e:=h;exact⟨by simpa [dV,St.count]using ha,by simp[dV,St.count],rfl⟩
def je{e nx:Nat}{cnt:Nat->Nat}:Gr e nx cnt 0 (.full e):=⟨rfl,rfl⟩
def tw{t:aB}{st:St}{n:Nat}:(dV t st n).objs=st.objs:=by cases t<;>rfl
def IY{t:aB}{st:St}{n:Nat}:(dV t st n).maps=st.maps:=by cases t<;>rfl
def i8:aB->aB->Prop
 | .own k _,.own j _=>k≠j
 |_,_=>True
def gO{e e2 n n2 m:Nat}{t u:aB}{st:St}(h:Gr e st.nx st.cnt n t)(k:Gr e2 st.nx st.cnt n2 u)(ha:i8 t u):Gr e2 (dV t st m).nx (dV t st m).cnt n2 u/\i8 (dU e t st) u:=by
 have go:∀ (t:aB),(match t with| .own _ _=>False|_=>True)->dV t st m=st.more [m]->dU e t st= .own st.nx e->Gr e2 (dV t st m).nx (dV t st m).cnt n2 u/\i8 (dU e t st) u:=by
  intro t _ h1 h2;rw[h1,h2];cases u with
  |own j e'=>
   obtain⟨ka,kb,rfl⟩:j<st.nx/\st.cnt j=n2/\e'=e2:=k;refine⟨⟨by simp[St.more];omega,by simp[St.more,ka,kb],rfl⟩,?_⟩
   show st.nx≠j;omega
  |no=>exact k.elim
  |sub k'=>exact k.elim
  |el k' e' n'=>exact k.elim
  |nil=>exact⟨k,trivial⟩
  |full e'=>exact⟨k,trivial⟩
 cases t with
 |no=>exact h.elim
 |sub k=>exact h.elim
 |el k e n=>exact h.elim
 |nil=>exact go .nil trivial rfl rfl
 |full e'=>exact go (.full e') trivial rfl rfl
 |own i e'=>
  cases u with
  |own j e''=>
   obtain⟨ka,kb,rfl⟩:j<st.nx/\st.cnt j=n2/\e''=e2:=k;have ha:i≠j:=ha;refine⟨⟨by simpa [dV,St.count]using ka,?_,rfl⟩,ha⟩;simp only[dV,St.count];rw[ad (fun h=>ha h.symm)];exact kb
  |no=>exact k.elim
  |sub k'=>exact k.elim
  |el k' e' n'=>exact k.elim
  |nil=>exact⟨k,trivial⟩
  |full e''=>exact⟨k,trivial⟩
def ti(zs:List PV):List (Nat×Nat×PV)->Option (List PV)
 | []=>some zs
 |(off,sz,p)::rest=>match cellsOf p with
  |some cs=>if cs.length=sz/\off+sz<=zs.length then ti (bD zs off cs) rest else none
  |none=>none
def yp(fr:Fr):∀ (ps:List (Nat×Nat×CX)) (zs:List PV),kD zs fr ps=ti zs (ps.map fun q=>(q.1,q.2.1,q.2.2.ev fr))
 | [],_=>rfl
 |(off,sz,x)::rest,zs=>by
  simp only[kD,aH,ti];cases cellsOf (x.ev fr)with
  |none=>rfl
  |some cs=>simp only[yp fr rest]
def NA(o:Option (List PV))(st:St):Option (PV×St):=match o with
 |some cs=>some (.agg cs,st)
 |none=>none
def Nv(e sz n:Nat)(zs:List PV)(o:Option (List PV))(st:St):Option (PV×St):=match o with
 |some cs=>if zs.length=sz/\0<sz then some (.list n cs (.full e),st)else none
 |none=>none
def Ad(sz s off:Nat)(vs cs:Option (List PV))(st:St):Option (PV×St):=match vs,cs with
 |some vs,some cs=>if vs.length=sz/\off+sz<=cs.length then some (.hole,bP st s (bD cs off vs))else none
 |_,_=>none
def Hg{sz s off:Nat}{x:PV}{st:St}:yS sz (.ptr s off) x st=Ad sz s off (cellsOf x) (st.objs s) st:=by
 simp only[yS,Ad];cases cellsOf x with
 |none=>rfl
 |some vs=>cases h:st.objs s<;>simp only[h]
def JU{sz s off:Nat}{ag:Bool}{st:St}:zm sz ag (.ptr s off) st=(wc (st.objs s) off sz ag).map fun p=>(p,st):=by
 simp only[zm,wc];cases h:st.objs s<;>simp only[]<;>rfl
def GV(x:PV)(st:St):Option (PV×St):=match x with
 | .list n cs _=>match sH cs with
  |some bs=>if bs.length=n then some (.str ⟨bs.toArray⟩,st)else none
  |none=>none
 |_=>none
def vB(l:List UInt8):List PV:=l.map fun c=>U (c.toNat:Int)
def GR(l:List UInt8):sH (vB l)=some l:=by
 unfold vB
 induction l with
 |nil=>rfl
 |cons c l ih=>simp[sH,ih]
def DA{l:List UInt8}{n:Nat}{t:aB}{st:St}(h:n=l.length):GV (.list n (vB l) t) st=some (S l,st):=by
 simp[GV,GR,h]
def nP(l:List UInt8):(vB l).length=l.length:=by simp[vB]
def yF(l:List UInt8)(c:UInt8):vB l++[U (c.toNat:Int)]=vB (l++[c]):=by simp[vB]
def tH(sz:Nat)(x:PV)(lo hi:Option PV)(st:St):Option (PV×St):=match x with
 | .list n cs t=>match (match (match hi with|some x=>jG x n|none=>some n)with
   |none=>none
   |some h=>match (match lo with|some x=>jG x h|none=>some 0)with
    |none=>none
    |some l=>some (l,h))with
  |some (l,h)=>if cs.length=n*sz then some (.list (h-l) ((cs.drop (l*sz)).take ((h-l) *sz)) (t.cut lo.isNone n h),st)else none
  |none=>none
 |_=>none
def ze{c:PV}{cs:List PV}:bI (c::cs) 0 1 false=some c:=by
 simp[bI]
def F5{c:PV}{cs:List PV}{n sz:Nat}{ag:Bool}:bI (c::cs) (n+1) sz ag=bI cs n sz ag:=by
 unfold bI;simp only[au,List.drop_succ_cons,ah];have:n+1+sz<=cs.length+1↔n+sz<=cs.length:=by omega
 simp only[this]
def F4{cs:List PV}{sz:Nat}:bI cs 0 sz true=if sz<=cs.length then some (.agg (cs.take sz))else none:=by
 simp[bI]
def vx{cs vs:List PV}{v:PV}{off:Nat}:bD cs off (v::vs)=bD (cs.set off v) (off+1) vs:=rfl
def vT:∀ (vs as cs:List PV),vs.length=cs.length->bD (as++cs) as.length vs=as++vs
 | [],as,[],_=>rfl
 |v::vs,as,c::cs,h=>by
  rw[vx];have:(as++c::cs).set as.length v=(as++[v])++cs:=by simp
  rw[this];have h2:=vT vs (as++[v]) cs (by simpa using h);rw[af]at h2;simp only[au,aO,aq]at h2;rw[h2];simp
def iK{vs cs:List PV}(h:vs.length=cs.length):bD cs 0 vs=vs:=by
 have:=vT vs [] cs h;simpa using this
def bT:
  (∀ {cf:aA} {fr:Fr} {st:St} {d:Option Nat} {zs:List PV} {ps:List (Nat×Nat×CX)},aw cf fr st d (.build zs ps)=NA (ti zs (ps.map fun q=>(q.1,q.2.1,q.2.2.ev fr))) st)/\
  (∀ {cf:aA} {fr:Fr} {st:St} {d:Option Nat} {e sz n:Nat} {zs:List PV} {ps:List (Nat×Nat×CX)},aw cf fr st d (.bsl e sz zs n ps)=Nv e sz n zs (ti (List.replicate n zs).flatten (ps.map fun q=>(q.1,q.2.1,q.2.2.ev fr))) st)/\
  (∀ {cf:aA} {fr:Fr} {st:St} {d:Option Nat} {e sz b:Nat} {x y:CX},aw cf fr st d (.app e sz b x y)=sJ e sz b (x.ev fr) (y.ev fr) st)/\
  (∀ {cf:aA} {fr:Fr} {st:St} {d:Option Nat} {x:CX},aw cf fr st d (.b2s x)=GV (x.ev fr) st)/\
  (∀ {cf:aA} {fr:Fr} {st:St} {d:Option Nat} {sz:Nat} {x:CX},aw cf fr st d (.slc sz x none none)=tH sz (x.ev fr) none none st)/\
  (∀ {cf:aA} {fr:Fr} {st:St} {d:Option Nat} {sz:Nat} {x a:CX},aw cf fr st d (.slc sz x (some a) none)=tH sz (x.ev fr) (some (a.ev fr)) none st)/\
  (∀ {cf:aA} {fr:Fr} {st:St} {d:Option Nat} {sz:Nat} {x b:CX},aw cf fr st d (.slc sz x none (some b))=tH sz (x.ev fr) none (some (b.ev fr)) st)/\
  (∀ {cf:aA} {fr:Fr} {st:St} {d:Option Nat} {sz:Nat} {x a b:CX},aw cf fr st d (.slc sz x (some a) (some b))=tH sz (x.ev fr) (some (a.ev fr)) (some (b.ev fr)) st):=by
 refine⟨?_,?_,?_,?_,?_,?_,?_,?_⟩
 ·intros;simp only[aw,yp];rfl
 ·intros;simp only[aw,yp];rfl
 all_goals (intros;rfl)
def ai:
  (∀ {sz s off:Nat} {x:PV} {st:St},yS sz (.ptr s off) x st=Ad sz s off (cellsOf x) (st.objs s) st)/\
  (∀ {sz s off:Nat} {ag:Bool} {st:St},zm sz ag (.ptr s off) st=(wc (st.objs s) off sz ag).map fun p=>(p,st))/\
  (∀ {sz s off:Nat} {vs cs:List PV} {st:St},Ad sz s off (some vs) (some cs) st=if vs.length=sz/\off+sz<=cs.length then some (.hole,bP st s (bD cs off vs))else none)/\
  (∀ {cs:List PV} {off sz:Nat} {ag:Bool},wc (some cs) off sz ag=bI cs off sz ag)/\
  (∀ {c:PV} {cs:List PV},bI (c::cs) 0 1 false=some c)/\(∀ {c:PV} {cs:List PV} {n sz:Nat} {ag:Bool},bI (c::cs) (n+1) sz ag=bI cs n sz ag)/\
  (∀ {cs:List PV} {sz:Nat},bI cs 0 sz true=if sz<=cs.length then some (.agg (cs.take sz))else none)/\
  (∀ {cs:List PV},cellsOf (.agg cs)=some cs)/\(∀ {k:IntKind} {n:Int},cellsOf (.int k n)=some [.int k n])/\(∀ {b:Bool},cellsOf (.bool b)=some [.bool b])/\(∀ {s:ByteArray},cellsOf (.str s)=some [.str s])/\(∀ {n:Nat} {cs:List PV} {t:aB},cellsOf (.list n cs t)=some [.list n cs t])/\
  (∀ {cs st},NA (some cs) st=some (.agg cs,st))/\(∀ {e sz n:Nat} {zs cs:List PV} {st:St},Nv e sz n zs (some cs) st=if zs.length=sz/\0<sz then some (.list n cs (.full e),st)else none)/\
  (∀ {zs:List PV},ti zs []=some zs)/\(∀ {zs:List PV} {off sz:Nat} {p:PV} {rest:List (Nat×Nat×PV)},ti zs ((off,sz,p)::rest)=match cellsOf p with|some cs=>if cs.length=sz/\off+sz<=zs.length then ti (bD zs off cs) rest else none|none=>none)/\
  (∀ {cs:List PV} {off:Nat},bD cs off []=cs)/\(∀ {cs vs:List PV} {v:PV} {off:Nat},bD cs off (v::vs)=bD (cs.set off v) (off+1) vs)/\
  (∀ {c v:PV} {cs:List PV},(c::cs).set 0 v=v::cs)/\(∀ {c v:PV} {cs:List PV} {n:Nat},(c::cs).set (n+1) v=c::cs.set n v)/\
  (∀ {zs:List PV},(List.replicate 1 zs).flatten=zs)/\(∀ {zs:List PV},(List.replicate 2 zs).flatten=zs++zs)/\
  (∀ {cs:List PV},cs.take 0=[])/\(∀ {c:PV} {cs:List PV} {n:Nat},(c::cs).take (n+1)=c::cs.take n)/\(∀ {n:Nat},([]:List PV).take n=[])/\
  (([]:List PV).length=0)/\(∀ {c:PV} {cs:List PV},(c::cs).length=cs.length+1)/\
  (∀ {vs:List PV},([]++vs)=vs)/\(∀ {v:PV} {vs ws:List PV},((v::vs)++ws)=v::(vs++ws))/\
  (∀ {t:aB} {st:St} {n:Nat},(dV t st n).objs=st.objs)/\(∀ {t:aB} {st:St} {n:Nat},(dV t st n).maps=st.maps)/\
  (∀ {st:St} {v:Nat},(cZ st v).objs=st.objs)/\(∀ {st:St} {v:Nat},(cZ st v).maps=st.maps)/\(∀ {st:St} {v:Nat},(cZ st v).nx=st.nx)/\(∀ {st:St} {v:Nat},(cZ st v).cnt=st.cnt):=by
 refine⟨Hg,JU,rfl,rfl,ze,F5,F4,rfl,rfl,rfl,rfl,rfl,rfl,rfl,rfl,rfl,rfl,rfl,rfl,rfl,?_,?_,?_,?_,?_,?_,?_,?_,?_,tw,IY,rfl,rfl,rfl,rfl⟩<;>intros<;>first|rfl|simp[List.replicate]
def rG{fr:Fr}{st:St}{r:hZ}{rs:List hZ}:ff fr st (r::rs)=u7 (mR fr st r) (ff fr st rs):=by
 simp only[ff];cases mR fr st r<;>cases ff fr st rs<;>rfl
def eF{n:Nat}{cs:List PV}{t:aB}:aC (.list n cs t)= .list n (aF cs) .no:=by
 simp only[aC,aF,ren];cases t<;>rfl
def az:
  (∀ {rs:List hZ} {Q:PV->List PV->Prop} {fr:Fr} {st:St},G7 rs Q .ret (fr,st)↔x8 Q (ff fr st rs) (st.objs 0))/\
  (∀ {rs:List hZ} {Q:PV->List PV->Prop} {fr:Fr} {st:St},G7 rs Q .go (fr,st)↔x8 Q (ff fr st rs) (st.objs 0))/\
  (∀ {rs:List hZ} {Q:PV->Prop} {fr:Fr} {st:St},zT rs Q .ret (fr,st)↔x8 (fun p _=>Q p) (ff fr st rs) (some []))/\
  (∀ {rs:List hZ} {Q:PV->Prop} {fr:Fr} {st:St},zT rs Q .go (fr,st)↔x8 (fun p _=>Q p) (ff fr st rs) (some []))/\
  (∀ {Q:PV->List PV->Prop} {ps c:List PV},x8 Q (some ps) (some c)↔(eQ ps=true/\aI c=true/\Q (aC (fw ps)) (aF c)))/\
  (∀ {fr:Fr} {st:St},ff fr st []=some [])/\(∀ {fr:Fr} {st:St} {r:hZ} {rs:List hZ},ff fr st (r::rs)=u7 (mR fr st r) (ff fr st rs))/\
  (∀ {p:PV} {ps:List PV},u7 (some p) (some ps)=some (p::ps))/\
  (∀ {fr:Fr} {st:St} {t:Nat},mR fr st (.tmp t)=some (fr t))/\(∀ {fr:Fr} {st:St} {a sz:Nat} {ag:Bool},mR fr st (.cell a sz ag)=ve (fr a) sz ag st)/\
  (∀ {s off sz:Nat} {ag:Bool} {st:St},ve (.ptr s off) sz ag st=wc (st.objs s) off sz ag)/\
  (eQ []=true)/\(∀ {p:PV} {ps:List PV},eQ (p::ps)=(np p && kj p && eQ ps))/\
  (∀ {p:PV},fw [p]=p)/\(∀ {p q:PV} {ps:List PV},fw (p::q::ps)= .tup (p::q::ps))/\
  (∀ {k:IntKind} {n:Int},kj (.int k n)=true)/\(∀ {b:Bool},kj (.bool b)=true)/\(∀ {s:ByteArray},kj (.str s)=true)/\(∀ {cs:List PV},kj (.agg cs)=true)/\(∀ {n:Nat} {cs:List PV} {t:aB},kj (.list n cs t)=true)/\
  (∀ {k:IntKind} {n:Int},np (.int k n)=true)/\(∀ {b:Bool},np (.bool b)=true)/\(∀ {s:ByteArray},np (.str s)=true)/\(∀ {cs:List PV},np (.agg cs)=aI cs)/\(∀ {n:Nat} {cs:List PV} {t:aB},np (.list n cs t)=aI cs)/\(np .nili=true)/\(np .err=true)/\
  (aI []=true)/\(∀ {p:PV} {ps:List PV},aI (p::ps)=(np p && aI ps))/\
  (∀ {k:IntKind} {n:Int},aC (.int k n)= .int k n)/\(∀ {b:Bool},aC (.bool b)= .bool b)/\(∀ {s:ByteArray},aC (.str s)= .str s)/\(∀ {cs:List PV},aC (.agg cs)= .agg (aF cs))/\(∀ {cs:List PV},aC (.tup cs)= .tup (aF cs))/\(∀ {n:Nat} {cs:List PV} {t:aB},aC (.list n cs t)= .list n (aF cs) .no)/\
  (aF []=[])/\(∀ {p:PV} {ps:List PV},aF (p::ps)=aC p::aF ps)/\
  (∀ {ns:List Nat} {c:List PV} {cs:List (List PV)},(bn ns (c::cs)).objs 0=some c):=by
 refine⟨?_,?_,?_,?_,?_,?_,rG,?_,?_,?_,?_,?_,?_,?_,?_,?_,?_,?_,?_,?_,?_,?_,?_,?_,?_,?_,?_,?_,?_,?_,?_,?_,?_,?_,eF,?_,?_,?_⟩<;>intros<;>first|rfl|(simp only[G7,zT,kE,true_and])
def WK(cf:aA)(chk:List (Nat×Nat))(acc:List (List Nat))(os:List bS)(x:Fr×St)(K:Fr×St->Prop):Prop:=
 ∃ ks y,iA cf os x=some (ks,y)/\chk.all (nw (acc++ks))=true/\K y
def HR(b:Bool)(A:Prop):Prop:=b=true/\A
section
variable {cf:aA} {N:Nat} {fr:Fr} {st:St} {chk:List (Nat×Nat)} {acc:List (List Nat)}
def Mt{os:List bS}{q:Nat×Nat}{Q:Ex->Fr×St->Prop}:Wp cf N (.reg os (q::chk)) (fr,st) Q↔WK cf (q::chk) [] os (fr,st) (Q .go):=by
 unfold Wp WK;simp only[ev,sj,aN];cases h:iA cf os (fr,st)with
 |none=>simp
 |some z=>
  obtain⟨ks,y⟩:=z;simp only;constructor
  ·rintro⟨e,y',h,hq⟩;split at h
   ·rename_i hc;simp only[dC,bo,cn]at h;obtain⟨rfl,rfl⟩:=h;exact⟨ks,y,rfl,hc,hq⟩
   ·simp at h
  ·rintro⟨ks',y',h,hc,hq⟩;simp only[bo,cn]at h;obtain⟨rfl,rfl⟩:=h;rw[ak hc];exact⟨.go,y,rfl,hq⟩
def NF{K:Fr×St->Prop}:WK cf chk acc [] (fr,st) K↔HR (chk.all (nw acc)) (ek K (fr,st)):=by
 unfold WK HR ek;simp only[iA];constructor
 ·rintro⟨ks,y,h,hc,hk⟩;cases h;rw[aD]at hc;exact⟨hc,hk⟩
 ·rintro⟨hc,hk⟩;exact⟨[],_,rfl,by rw[aD];exact hc,hk⟩
def yL{o:bS}{os:List bS}{x:Fr×St}{K:Fr×St->Prop}:
  WK cf chk acc (o::os) x K↔∃ y,dk cf o x=some y/\WK cf chk (acc++[bc x.1 o.op]) os y K:=by
 unfold WK;simp only[iA];constructor
 ·rintro⟨ks,y,h,hc,hk⟩;split at h
  ·rename_i z hz;refine⟨z,hz,?_⟩;split at h
   ·rename_i hz';cases h;exact⟨_,_,hz',by rw[bl];exact hc,hk⟩
   ·cases h
  ·cases h
 ·rintro⟨y,hy,ks,z,hz,hc,hk⟩;rw[hy];simp only[hz];exact⟨_,_,rfl,by rw[bl]at hc;exact hc,hk⟩
def Mx{d:Option Nat}{op:ew}{os:List bS}{K:Fr×St->Prop}:
  WK cf chk acc (⟨none,d,op⟩::os) (fr,st) K↔cP (aw cf fr st d op) (fun v st'=>(put (cJ cf op d st fr) d v,st')) (fun y=>WK cf chk (acc++[bc fr op]) os y K):=by
 rw[yL];have h:=AF (cf:=cf) (fr:=fr) (st:=st) (d:=d) (op:=op) (os:=[]) (K:=fun y=>WK cf chk (acc++[bc fr op]) os y K);simp only[WO,iI,cP]at h ⊢;rw[<-(show(∃ y,(match dk cf ⟨none,d,op⟩ (fr,st)with|some y=>some y|none=>none)=some y/\WK cf chk (acc++[bc fr op]) os y K)↔∃ y,dk cf ⟨none,d,op⟩ (fr,st)=some y/\WK cf chk (acc++[bc fr op]) os y K by
  constructor<;>rintro⟨y,h,k⟩<;>refine⟨y,?_,k⟩<;>revert h<;>cases dk cf ⟨none,d,op⟩ (fr,st)<;>simp)]
 constructor
 ·intro hh;obtain⟨v,st',h1,y,h2,h3⟩:=h.1 hh;cases h2;exact⟨v,st',h1,h3⟩
 ·rintro⟨v,st',h1,h3⟩;exact h.2 ⟨v,st',h1,_,rfl,h3⟩
def KS{s:Nat}{b:Bool}{d:Option Nat}{op:ew}{os:List bS}{K:Fr×St->Prop}:
  WK cf chk acc (⟨some (s,b),d,op⟩::os) (fr,st) K↔BI (fr s) b (ek (fun y=>WK cf chk acc (⟨none,d,op⟩::os) y K) (fr,st)) (ek (fun y=>WK cf chk (acc++[bc fr op]) os y K) (put fr d .hole,st)):=by
 simp only[ek];rw[yL];have hW:=yL (cf:=cf) (chk:=chk) (acc:=acc) (o:=⟨none,d,op⟩) (os:=os) (x:=(fr,st)) (K:=K);rw[hW];clear hW;unfold BI;simp only[dk,eE];generalize fr s=p;cases p with
 |bool b'=>
  cases b<;>cases b'<;>simp[lk]
 |hole=>simp
 |_=>simp
end
def dx:
  (∀ {cf:aA} {N:Nat} {fr:Fr} {st:St} {os:List bS} {q:Nat×Nat} {chk:List (Nat×Nat)} {Q:Ex->Fr×St->Prop},Wp cf N (.reg os (q::chk)) (fr,st) Q↔WK cf (q::chk) [] os (fr,st) (Q .go))/\
  (∀ {cf:aA} {chk:List (Nat×Nat)} {acc:List (List Nat)} {fr:Fr} {st:St} {K:Fr×St->Prop},WK cf chk acc [] (fr,st) K↔HR (chk.all (nw acc)) (ek K (fr,st)))/\
  (∀ {cf:aA} {chk:List (Nat×Nat)} {acc:List (List Nat)} {fr:Fr} {st:St} {d:Option Nat} {op:ew} {os:List bS} {K:Fr×St->Prop},
   WK cf chk acc (⟨none,d,op⟩::os) (fr,st) K↔cP (aw cf fr st d op) (fun v st'=>(put (cJ cf op d st fr) d v,st')) (fun y=>WK cf chk (acc++[bc fr op]) os y K))/\
  (∀ {cf:aA} {chk:List (Nat×Nat)} {acc:List (List Nat)} {fr:Fr} {st:St} {s:Nat} {b:Bool} {d:Option Nat} {op:ew} {os:List bS} {K:Fr×St->Prop},
   WK cf chk acc (⟨some (s,b),d,op⟩::os) (fr,st) K↔BI (fr s) b (ek (fun y=>WK cf chk acc (⟨none,d,op⟩::os) y K) (fr,st)) (ek (fun y=>WK cf chk (acc++[bc fr op]) os y K) (put fr d .hole,st)))/\
  (∀ {f:Fr×St->Prop} {x:Fr×St},HR true (ek f x)↔f x):=
 ⟨Mt,NF,Mx,KS,by simp[HR,ek]⟩
def cB:
  (∀ {fr:Fr} {x:CX},bc fr (.mv x)=[])/\(∀ {fr:Fr} {a b c:CX},bc fr (.pick a b c)=[])/\(∀ {fr:Fr} {zs:List PV},bc fr (.alloc zs)=[])/\(∀ {fr:Fr} {n:Nat} {x:CX},bc fr (.box n x)=[])/\
  (∀ {fr:Fr} {zs:List PV} {ps:List (Nat×Nat×CX)},bc fr (.build zs ps)=[])/\(∀ {fr:Fr} {e sz n:Nat} {zs:List PV} {ps:List (Nat×Nat×CX)},bc fr (.bsl e sz zs n ps)=[])/\
  (∀ {fr:Fr} {sz:Nat} {ag:Bool} {x:CX},bc fr (.load sz ag x)=mu (x.ev fr))/\(∀ {fr:Fr} {sz:Nat} {x y:CX},bc fr (.store sz x y)=mu (x.ev fr))/\
  (∀ {fr:Fr} {x:CX},bc fr (.nck x)=[])/\(∀ {fr:Fr} {op:BinOp} {x y:CX},bc fr (.bin op x y)=[])/\(∀ {fr:Fr} {b:Bool} {x:CX},bc fr (.isnil b x)=[])/\(∀ {fr:Fr} {b:Bool} {x y:CX},bc fr (.beq b x y)=[])/\
  (∀ {fr:Fr} {op:UnOp} {x:CX},bc fr (.un op x)=[])/\(∀ {fr:Fr} {k:IntKind} {x:CX},bc fr (.toInt k x)=[])/\(∀ {fr:Fr} {x:CX},bc fr (.s2s x)=[])/\(∀ {fr:Fr} {x:CX} {i:Nat},bc fr (.ext x i)=[])/\
  (∀ {fr:Fr} {o:Nat} {x:CX},bc fr (.fad o x)=[])/\(∀ {fr:Fr} {o sz:Nat} {ag:Bool} {x:CX},bc fr (.fld o sz ag x)=[])/\(∀ {fr:Fr} {sz:Nat} {x y:CX},bc fr (.iad sz x y)=[])/\(∀ {fr:Fr} {x y:CX},bc fr (.sidx x y)=[])/\
  (∀ {fr:Fr} {x:CX} {l h:Option CX},bc fr (.ssl x l h)=[])/\(∀ {fr:Fr} {sz:Nat} {x:CX} {l h:Option CX},bc fr (.slc sz x l h)=[])/\(∀ {fr:Fr} {x:CX},bc fr (.slen x)=[])/\(∀ {fr:Fr} {x:CX},bc fr (.len x)=[])/\
  (∀ {fr:Fr} {e sz b:Nat} {x y:CX},bc fr (.app e sz b x y)=[])/\(∀ {fr:Fr} {x:CX},bc fr (.b2s x)=[])/\(∀ {fr:Fr} {e sz b:Nat} {zs:List PV} {n c:CX},bc fr (.mks e sz b zs n c)=[])/\(∀ {fr:Fr} {e sz b:Nat} {n c:CX},bc fr (.mk0 e sz b n c)=[])/\
  (∀ {fr:Fr} {f:Nat} {as:List CX} {mv:List Nat},bc fr (.call f as mv)=(cX (as.map (·.ev fr))).getD [])/\
  (∀ {s o:Nat},mu (.ptr s o)=[s])/\(∀ {cs:List PV} {o:Nat} {t:aB},mu (.iptr cs o t)=[])/\(mu .hole=[])/\(mu .any=[])/\
  (∀ {l:List Nat},(some l).getD []=l)/\(∀ {k:IntKind} {n:Int} {ps:List PV},cX (.int k n::ps)=cX ps)/\(∀ {s:ByteArray} {ps:List PV},cX (.str s::ps)=cX ps)/\(∀ {b:Bool} {ps:List PV},cX (.bool b::ps)=cX ps)/\(∀ {ps:List PV},cX (.hole::ps)=cX ps)/\(cX []=some [])/\
  (∀ {as:List (List Nat)},[]++as=as)/\(∀ {a:List Nat} {as bs:List (List Nat)},(a::as)++bs=a::(as++bs)):=by
 refine⟨?_,?_,?_,?_,?_,?_,?_,?_,?_,?_,?_,?_,?_,?_,?_,?_,?_,?_,?_,?_,?_,?_,?_,?_,?_,?_,?_,?_,?_,?_,?_,?_,?_,?_,?_,?_,?_,?_,?_,?_,?_⟩<;>intros<;>rfl
def fD:(∀ {ks:List (List Nat)},List.all [] (nw ks)=true)/\(∀ {ks:List (List Nat)} {q:Nat×Nat} {qs:List (Nat×Nat)},List.all (q::qs) (nw ks)=(nw ks q && List.all qs (nw ks)))/\
  (∀ {ks:List (List Nat)} {i j:Nat},nw ks (i,j)=((ks[i]?).getD []).all fun k=>!((ks[j]?).getD []).contains k)/\(∀ {f:Nat->Bool},List.all [] f=true)/\(∀ {f:Nat->Bool} {k:Nat} {ks:List Nat},List.all (k::ks) f=(f k && List.all ks f))/\
  (∀ {k:Nat},([]:List Nat).contains k=false)/\(∀ {k j:Nat} {ks:List Nat},(j::ks).contains k=(decide (k=j)||ks.contains k)):=by
 refine⟨rfl,rfl,rfl,rfl,rfl,rfl,?_⟩
 intros k j ks
 rw[List.contains_cons];congr 1
mutual
theorem lq(f:Nat->Option Nat)(h:Nat->Nat):∀ p:PV,(∀ q∈ar p,f q.1=some (h q.1))->ar (ren f false p)=(ar p).map fun q=>(h q.1,q.2)
 | .list n cs t,hf=>by
  have ih:=kQ f h cs fun q hq=>hf q (by simp only[ar,ay];exact .inr hq);simp only[ren,ar,ih,ch];congr 1;cases t with
  |own k e=>
   have:=hf (k,n) (by simp[ar]);simp only at this;simp[aB.ren,this]
  |sub k=>
   simp only[aB.ren];cases f k<;>rfl
  |el k e n=>
   simp only[aB.ren];cases f k<;>rfl
  |_=>rfl
 | .iptr cs o t,hf=>by
  have ih:=kQ f h cs hf;simp only[ren,ar,ih]
 | .agg cs,hf=>by
  have ih:=kQ f h cs hf;simp only[ren,ar,ih]
 | .tup cs,hf=>by
  have ih:=kQ f h cs hf;simp only[ren,ar,ih]
 | .fn g cs,hf=>by
  have ih:=kQ f h cs hf;simp only[ren,ar,ih]
 | .any,_| .hole,_| .int _ _,_| .bool _,_| .str _,_| .nilp,_| .nili,_| .err,_| .ptr _ _,_| .osl _ _ _ _,_| .mp _,_=>rfl
theorem kQ(f:Nat->Option Nat)(h:Nat->Nat):∀ ps:List PV,(∀ q∈al ps,f q.1=some (h q.1))->al (aZ f false ps)=(al ps).map fun q=>(h q.1,q.2)
 | [],_=>rfl
 |p::ps,hf=>by
  simp only[aZ,al,ch];rw[lq f h p fun q hq=>hf q (by simp only[al,ay];exact .inl hq),kQ f h ps fun q hq=>hf q (by simp only[al,ay];exact .inr hq)]
end
mutual
theorem gt(f:Nat->Option Nat):∀ p:PV,aC (ren f false p)=aC p
 | .list n cs t=>by
  have ih:=eG f cs;simp only[aC,aF,ren]at ih ⊢;rw[ih];congr 1;cases t with
  |own k e=>simp only[aB.ren];cases f k<;>rfl
  |sub k=>simp only[aB.ren];cases f k<;>rfl
  |el k e n=>simp only[aB.ren];cases f k<;>rfl
  |_=>rfl
 | .iptr cs o t=>by
  have ih:=eG f cs;simp only[aC,aF,ren]at ih ⊢;rw[ih];congr 1;cases t with
  |own k e=>simp only[aB.ren];cases f k<;>rfl
  |sub k=>simp only[aB.ren];cases f k<;>rfl
  |el k e n=>simp only[aB.ren];cases f k<;>rfl
  |_=>rfl
 | .agg cs=>by
  have ih:=eG f cs;simp only[aC,aF,ren]at ih ⊢;rw[ih]
 | .tup cs=>by
  have ih:=eG f cs;simp only[aC,aF,ren]at ih ⊢;rw[ih]
 | .fn g cs=>by
  have ih:=eG f cs;simp only[aC,aF,ren]at ih ⊢;rw[ih]
 | .any| .hole| .int _ _| .bool _| .str _| .nilp| .nili| .err| .ptr _ _| .osl _ _ _ _| .mp _=>rfl
theorem eG(f:Nat->Option Nat):∀ ps:List PV,aF (aZ f false ps)=aF ps
 | []=>rfl
 |p::ps=>by
  have h1:=gt f p;have h2:=eG f ps;simp only[aC,aF,aZ]at h1 h2 ⊢;rw[h1,h2]
end
def ck(k:Nat):List (Nat×Nat)->Nat
 | []=>0
 |q::l=>(if q.1=k then 1 else 0)+ck k l
def bh(k:Nat):∀ a b:List (Nat×Nat),ck k (a++b)=ck k a+ck k b
 | [],b=>by simp[ck]
 |q::a,b=>by rw[a8,ck,ck,bh k a b];omega
def fT{k:Nat}:∀ {l:List (Nat×Nat)},0<ck k l↔∃ q∈l,q.1=k
 | []=>by simp[ck]
 |q::l=>by
  rw[ck];have ih:= @fT k l;by_cases h:q.1=k
  ·simp[h];omega
  ·rw[ad h,aq,ih];simp[h]
def rV{k:Nat}{l:List (Nat×Nat)}(h:∀ q∈l,q.1≠k):ck k l=0:=by
 have:= @fT k l;by_cases h0:0<ck k l
 ·obtain⟨q,hq,he⟩:=this.1 h0;exact absurd he (h q hq)
 ·omega
def mf:∀ {l:List (Nat×Nat)},(∀ k,ck k l<=1)->rm (l.map (·.1))=true
 | [],_=>rfl
 |q::l,h=>by
  simp only[aH,rm,ae,lN];refine⟨?_,mf fun k=>?_⟩
  ·have h1:=h q.1;rw[ck,ak rfl]at h1;cases hc:(l.map (·.1)).contains q.1 with
   |false=>rfl
   |true=>
    obtain⟨x,hx,he⟩:=cA.1 (ei.1 hc);have:=fT.2 ⟨x,hx,he⟩;omega
  ·have h1:=h k;rw[ck]at h1;omega
mutual
def aJ:PV->Bool
 | .list _ cs t=>(match t with| .own _ _=>true| .sub _=>false| .el .. =>false|_=>cs.isEmpty) && aY cs
 | .agg cs=>aY cs
 | .tup cs=>aY cs
 | .fn _ cs=>aY cs
 | .iptr .. =>false
 |_=>true
def aY:List PV->Bool
 | []=>true
 |p::ps=>aJ p && aY ps
end
mutual
theorem kf:∀ p:PV,aJ p=true->ft p=true
 | .list n cs t,h=>by
  simp only[aJ,ae]at h;simp only[ft,ae];refine⟨?_,kM cs h.2⟩;cases t<;>simp_all [aB.of]
 | .agg cs,h=>by simp only[aJ]at h;simp only[ft];exact kM cs h
 | .tup cs,h=>by simp only[aJ]at h;simp only[ft];exact kM cs h
 | .fn _ cs,h=>by simp only[aJ]at h;simp only[ft];exact kM cs h
 | .iptr ..,h=>by simp[aJ]at h
 | .any,_| .hole,_| .int _ _,_| .bool _,_| .str _,_| .nilp,_| .nili,_| .err,_| .ptr _ _,_| .osl _ _ _ _,_| .mp _,_=>rfl
theorem kM:∀ ps:List PV,aY ps=true->fo ps=true
 | [],_=>rfl
 |p::ps,h=>by
  simp only[aY,ae]at h;simp only[fo,kf p h.1,kM ps h.2,ap]
end
mutual
theorem sb(K:Nat->Bool):∀ p:PV,aJ p=true->(∀ q∈ar p,K q.1=false)->tf K p=true
 | .list n cs t,h,hk=>by
  simp only[aJ,ae]at h;simp only[tf,ae];refine⟨?_,kS K cs h.2 fun q hq=>hk q (by simp only[ar,ay];exact .inr hq)⟩;cases t with
  |own k e=>have:=hk (k,n) (by simp[ar]);simp only[aB.free,aB.of];simp_all
  |sub k=>simp at h
  |el k e n=>simp at h
  |no=>rfl
  |nil=>rfl
  |full e=>rfl
 | .agg cs,h,hk=>by simp only[aJ]at h;simp only[tf];exact kS K cs h hk
 | .tup cs,h,hk=>by simp only[aJ]at h;simp only[tf];exact kS K cs h hk
 | .fn _ cs,h,hk=>by simp only[aJ]at h;simp only[tf];exact kS K cs h hk
 | .iptr ..,h,_=>by simp[aJ]at h
 | .any,_,_| .hole,_,_| .int _ _,_,_| .bool _,_,_| .str _,_,_| .nilp,_,_| .nili,_,_| .err,_,_| .ptr _ _,_,_| .osl _ _ _ _,_,_| .mp _,_,_=>rfl
theorem kS(K:Nat->Bool):∀ ps:List PV,aY ps=true->(∀ q∈al ps,K q.1=false)->dw K ps=true
 | [],_,_=>rfl
 |p::ps,h,hk=>by
  simp only[aY,ae]at h;simp only[dw,sb K p h.1 fun q hq=>hk q (by simp only[al,ay];exact .inl hq),kS K ps h.2 fun q hq=>hk q (by simp only[al,ay];exact .inr hq),ap]
end
mutual
theorem jR(f:Nat->Option Nat):∀ p:PV,aJ p=true->(∀ q∈ar p,(f q.1).isSome=true)->aJ (ren f false p)=true
 | .list n cs t,h,hk=>by
  simp only[aJ,ae]at h;rw[gK];simp only[aJ,ae];refine⟨?_,fV f cs h.2 fun q hq=>hk q (by simp only[ar,ay];exact .inr hq)⟩;have he:(aZ f false cs).isEmpty=cs.isEmpty:=by cases cs<;>rfl
  cases t with
  |own k e=>
   have h1:=hk (k,n) (by simp[ar]);obtain⟨k',hk'⟩:=bW.1 h1;simp only[aB.ren,show f k=some k' from hk']
  |sub k=>simp at h
  |el k e n=>simp at h
  |no=>simp only[aB.ren,he];exact h.1
  |nil=>simp only[aB.ren,he];exact h.1
  |full e=>simp only[aB.ren,he];exact h.1
 | .agg cs,h,hk=>by simp only[aJ]at h;simp only[ren,aJ];exact fV f cs h hk
 | .tup cs,h,hk=>by simp only[aJ]at h;simp only[ren,aJ];exact fV f cs h hk
 | .fn _ cs,h,hk=>by simp only[aJ]at h;simp only[ren,aJ];exact fV f cs h hk
 | .iptr ..,h,_=>by simp[aJ]at h
 | .any,_,_| .hole,_,_| .int _ _,_,_| .bool _,_,_| .str _,_,_| .nilp,_,_| .nili,_,_| .err,_,_| .ptr _ _,_,_| .osl _ _ _ _,_,_| .mp _,_,_=>rfl
theorem fV(f:Nat->Option Nat):∀ ps:List PV,aY ps=true->(∀ q∈al ps,(f q.1).isSome=true)->aY (aZ f false ps)=true
 | [],_,_=>rfl
 |p::ps,h,hk=>by
  simp only[aY,ae]at h;simp only[aZ,aY,jR f p h.1 fun q hq=>hk q (by simp only[al,ay];exact .inl hq),fV f ps h.2 fun q hq=>hk q (by simp only[al,ay];exact .inr hq),ap]
end
def cj(nx:Nat):List Nat->List (Nat×Nat)
 | []=>[]
 |n::ns=>(nx,n)::cj (nx+1) ns
def tP(nx:Nat):∀ a b:List Nat,cj nx (a++b)=cj nx a++cj (nx+a.length) b
 | [],b=>by simp[cj]
 |n::a,b=>by rw[a8,cj,cj,tP (nx+1) a b,a8,au,kP,Nat.add_comm 1]
def Ef(nx:Nat):∀ a:List Nat,(cj nx a).length=a.length
 | []=>rfl
 |n::a=>by rw[cj,au,Ef (nx+1) a,au]
def jC{nx:Nat}:∀ {a:List Nat} {q:Nat×Nat},q∈cj nx a->nx<=q.1/\q.1<nx+a.length/\a.getD (q.1-nx) 0=q.2
 | [],q,h=>by simp[cj]at h
 |n::a,q,h=>by
  rw[cj,aX]at h;rcases h with rfl|h
  ·simp
  ·obtain⟨h1,h2,h3⟩:=jC h;refine⟨by omega,by simp;omega,?_⟩;obtain⟨d,hd⟩:∃ d,q.1-nx=d+1:=⟨q.1-nx-1,by omega⟩;rw[hd,List.getD_cons_succ,<-h3];congr 1;omega
def nM{nx:Nat}(k:Nat):∀ a:List Nat,ck k (cj nx a)<=1
 | []=>by simp[cj,ck]
 |n::a=>by
  rw[cj,ck];have h1:= @nM (nx+1) k a;by_cases h:nx=k
  ·have:ck k (cj (nx+1) a)=0:=rV fun q hq=>by have:=jC hq;omega
   simp only[h,if_true]at this ⊢;omega
  ·simp only[h,if_false];omega
def lc{x:Nat}:∀ {xs:List Nat},x∈xs->(aT xs x).isSome=true
 |y::ys,h=>by
  rw[aT];split
  ·rfl
  ·rename_i hn;have hx:x∈ys:=by
    rcases aX.1 h with rfl|h
    ·exact absurd rfl hn
    ·exact h
   have:= @lc x ys hx;simpa using this
def mz:∀ {l:List (Nat×Nat)} (d:Nat),(∀ k,ck k l<=1)->l.map (fun q=>(d+(aT (l.map (·.1)) q.1).getD 0,q.2))=cj d (l.map (·.2))
 | [],_,_=>rfl
 |q::l,d,h=>by
  have hl:∀ k,ck k l<=1:=fun k=>by have:=h k;rw[ck]at this;omega
  have ih:=mz (d+1) hl;simp only[aH,cj,aT,if_true];congr 1;rw[<-ih];refine List.map_congr_left fun x hx=>?_;have hne:q.1≠x.1:=by
   intro he;have h1:=h q.1;rw[ck,ak rfl]at h1;have:=fT.2 ⟨x,hx,he.symm⟩;omega
  rw[ad hne];have hm:x.1∈l.map (·.1):=cA.2 ⟨x,hx,rfl⟩;obtain⟨i,hi⟩:=bW.1 (lc hm);simp only[hi,dC,Option.getD_some];congr 1;omega
def aL(st:St)(l:List (Nat×Nat)):Prop:=(∀ k,ck k l<=1)/\∀ q∈l,q.1<st.nx/\st.cnt q.1=q.2/\st.fl<=q.1
def aL.ok{st:St}{l:List (Nat×Nat)}(h:aL st l):l.all (sZ st)=true:=by
 rw[bX];intro q hq;obtain⟨h1,h2,h3⟩:=h.2 q hq;simp[sZ,hH,h1,h2,h3]
def cV{st:St}{l:List (Nat×Nat)}(h:aL st l)(hf:st.fl<=st.nx)(ns:List Nat):aL (st.more ns) (l++cj st.nx ns):=by
 refine⟨fun k=>?_,fun q hq=>?_⟩
 ·rw[bh];have h1:=h.1 k;have h2:= @nM st.nx k ns;by_cases hk:k<st.nx
  ·have:ck k (cj st.nx ns)=0:=rV fun q hq=>by have:=jC hq;omega
   omega
  ·have:ck k l=0:=rV fun q hq=>by have:=(h.2 q hq).1;omega
   omega
 ·rw[St.more_nx,St.more_fl];rcases ay.1 hq with hq|hq
  ·obtain⟨h1,h2,h3⟩:=h.2 q hq;exact⟨by omega,by rw[St.more_old _ _ h1];exact h2,h3⟩
  ·obtain⟨h1,h2,h3⟩:=jC hq;exact⟨by omega,by rw[St.more_new _ _ h1 h2];exact h3,by omega⟩
def aK{st:St}{s:Nat}{c:List PV}{l:List (Nat×Nat)}(h:aL st l):aL (bP st s c) l:=h
structure cR (nx:Nat) (ns:List Nat) (r:PV):Prop where
 tk:ar r=cj nx ns
 so:aJ r=true
 np:np r=true
def ld{r0:PV}(hs:aJ r0=true)(hn:np r0=true)(hd:∀ k,ck k (ar r0)<=1)(nx:Nat):
  cR nx ((ar r0).map (·.2)) (ren (fun k=>some (nx+k)) false (ren (aT ((ar r0).map (·.1))) false r0))/\cR 0 ((ar r0).map (·.2)) (ren (aT ((ar r0).map (·.1))) false r0):=by
 have hm:∀ q∈ar r0,(aT ((ar r0).map (·.1)) q.1).isSome=true:=fun q hq=>lc (cA.2 ⟨q,hq,rfl⟩);have h1:ar (ren (aT ((ar r0).map (·.1))) false r0)=(ar r0).map fun q=>((aT ((ar r0).map (·.1)) q.1).getD 0,q.2):=
  lq _ (fun k=>(aT ((ar r0).map (·.1)) k).getD 0) r0 fun q hq=>by obtain⟨i,hi⟩:=bW.1 (hm q hq);rw[hi];rfl
 have hs1:=jR (aT ((ar r0).map (·.1))) r0 hs hm;refine⟨⟨?_,jR _ _ hs1 fun _ _=>rfl,?_⟩,⟨?_,hs1,?_⟩⟩
 ·rw[lq _ (fun k=>nx+k) _ fun _ _=>rfl,h1,List.map_map];exact mz nx hd
 ·rw[PM.np,gn,gn];exact hn
 ·rw[h1];have:=mz 0 hd;simpa using this
 ·rw[PM.np,gn];exact hn
def uA{r0:PV}{st1:St}(h:aL st1 (ar r0)):kB true st1 r0 []=(ren (aT ((ar r0).map (·.1))) false r0,(ar r0).map (·.2),[]):=by
 have:ji []=[]:=rfl;simp only[kB,this,aD,mf h.1,h.ok,ap,if_true,bM]
def ml:PV->Option Nat
 | .list _ _ (.own _ e)=>some e
 |_=>none
def uo{f:Nat->Option Nat}{p:PV}(h:∀ q∈ar p,(f q.1).isSome=true):ml (ren f false p)=ml p:=by
 cases p with
 |list n cs t=>
  rw[gK];cases t with
  |own k e=>
   obtain⟨j,hj⟩:=bW.1 (h (k,n) (by simp[ar]));have hj:f k=some j:=hj;simp only[aB.ren,hj,ml]
  |sub k=>simp only[aB.ren];cases f k<;>rfl
  |el k e n=>simp only[aB.ren];cases f k<;>rfl
  |_=>rfl
 |_=>rfl
def q7(rs:List hZ)(Q:PV->Option Nat->Prop)(e:Ex)(y:Fr×St):Prop:=kE e/\∃ r0,ff y.1 y.2 rs=some [r0]/\kj r0=true/\np r0=true/\aJ r0=true/\aL y.2 (ar r0)/\Q (aC r0) (ml r0)
section
variable {cf:aA} {f:Nat} {F:bp} {as:List PV} {st:St} {rs:List hZ}
def HU(st:St)(ns:List Nat):{st.more ns with fl:=st.fl}=st.more ns:=by cases ns<;>rfl
def GD{F:bp}{fr:Fr}{s1:St}{r0:PV}(hown:F.own=true)(hps:ff fr s1 F.res=some [r0])(hr:kj r0=true)(hp:np r0=true)(hk:aL s1 (ar r0)):
  gN F 0 fr s1=some (ren (aT ((ar r0).map (·.1))) false r0,(ar r0).map (·.2),[]):=by
 have h0:dl s1 (List.range 0)=some []:=rfl;have hm:=mQ F.nk s1 [r0] (by simpa using hr);simp only[gN,hps,h0,hm,fw,hp,cU,ap,if_true,hown,uA hk]
def EF(hown:F.own=true)(hres:F.res=rs)(N:Nat){ns:List Nat}{Q:PV->Option Nat->Prop}(hnt:as.length<=F.nt)(h:Wp cf N F.body (eu as,bn ns []) (q7 rs Q)):
  ∃ r ns',fO cf N F as ns []=some (r,ns',[])/\cR 0 ns' r/\(∀ nx,cR nx ns' (ren (fun k=>some (nx+k)) false r))/\Q (aC r) (ml r):=by
 obtain⟨e,⟨fr,s1⟩,hev,he,r0,hps,hr,hp,hso,hk,hQ⟩:=h;subst hres;have hf:=GD hown hps hr hp hk;refine⟨_,_,?_,(ld hso hp hk.1 0).2,fun nx=>(ld hso hp hk.1 nx).1,by rw[gt,uo fun q hq=>lc (cA.2 ⟨q,hq,rfl⟩)];exact hQ⟩;unfold fO;rw[ak ⟨hnt,aM _⟩,hev];cases e with
 |go=>exact hf
 |ret=>exact hf
 |exit i=>exact he.elim
def wx{r:PV}{ns:List Nat}(has:as.all bR=true)(hc:cf f (as.map aC) [] []=some (r,ns,[]))(hso:aJ r=true):av cf f as [] st=some (ren (fun k=>some (st.nx+k)) false r,st.more ns):=by
 rw[ot has hc,kf r hso,Bool.true_or,ak rfl];congr 2;exact HU st ns
def rx(K:iF cf)(hT:T f=some F)(hres:F.res=rs)(hown:F.own=true)(hnt:as.length<=F.nt)(has:∀ p∈as,cT p)(N:Nat){Q:PV->Prop}
  (h:Wp cf N F.body (eu as,bn [] []) (q7 rs fun p _=>Q p)):∃ r ns,av cf f as [] st=some (r,st.more ns)/\cR st.nx ns r/\Q (aC r):=by
 obtain⟨h1,h2⟩:=dE has;obtain⟨r,ns,hrun,hF0,hF,hQ⟩:=EF hown hres N hnt h;have hcf:=K f F hT N _ _ _ _ hrun;refine⟨_,ns,wx h1 (by rw[h2];exact hcf) hF0.so,hF st.nx,by rw[gt];exact hQ⟩
def dK{o:Option (PV×St)}{mk:PV->St->Fr×St}{A:Fr×St->Prop}{v:PV}(h:∃ r ns,o=some (r,st.more ns)/\cR st.nx ns r/\aC r=v)(k:∀ r ns,cR st.nx ns r->aC r=v->A (mk r (st.more ns))):cP o mk A:=by
 obtain⟨r,ns,rfl,hF,hQ⟩:=h;exact⟨_,_,rfl,k r ns hF hQ⟩
end
def eI{r:PV}{cs:List PV}(h:aC r= .agg cs):∃ ds,r= .agg ds/\aF ds=cs:=by
 cases r with
 |agg ds=>exact⟨ds,rfl,by simpa [aC,aF,ren]using h⟩
 |list n ds t=>simp[aC,ren]at h
 |iptr ds o t=>simp[aC,ren]at h
 |_=>simp[aC,ren]at h
def bt{r:PV}{n:Nat}{cs:List PV}{t:aB}(h:aC r= .list n cs t):∃ ds u,r= .list n ds u/\aF ds=cs/\t= .no:=by
 cases r with
 |list m ds u=>
  rw[eF]at h;injection h with h1 h2 h3;exact⟨ds,u,by rw[h1],h2,h3.symm⟩
 |agg ds=>simp[aC,ren]at h
 |iptr ds o t=>simp[aC,ren]at h
 |_=>simp[aC,ren]at h
def ey:∀ xs ys:List PV,aY (xs++ys)=(aY xs && aY ys)
 | [],ys=>rfl
 |x::xs,ys=>by simp only[a8,aY,ey xs ys,Bool.and_assoc]
def dN:∀ xs ys:List PV,al (xs++ys)=al xs++al ys
 | [],ys=>rfl
 |x::xs,ys=>by simp only[a8,al,dN xs ys,bl]
def DS(Q:PV->Option Nat->Prop)(r0:PV)(st:St):Prop:=kj r0=true/\np r0=true/\aJ r0=true/\aL st (ar r0)/\Q (aC r0) (ml r0)
def DT(Q:PV->Option Nat->Prop)(o:Option PV)(st:St):Prop:=match o with
 |some p=>DS Q p st
 |none=>False
def I4{e:Ex}(he:kE e){t:Nat}{Q:PV->Option Nat->Prop}{fr:Fr}{st:St}:q7 [.tmp t] Q e (fr,st)↔DS Q (fr t) st:=by
 constructor
 ·rintro⟨-,r0,h,k⟩;simp only[ff,mR]at h;cases h;exact k
 ·rintro k;exact⟨he,_,rfl,k⟩
def G6{e:Ex}(he:kE e){a sz:Nat}{ag:Bool}{Q:PV->Option Nat->Prop}{fr:Fr}{st:St}:q7 [.cell a sz ag] Q e (fr,st)↔DT Q (ve (fr a) sz ag st) st:=by
 have h0:mR fr st (.cell a sz ag)=ve (fr a) sz ag st:=rfl;unfold q7;rw[rG,h0];cases ve (fr a) sz ag st with
 |none=>simp[DT,u7]
 |some p=>simp[DT,ff,u7,DS,he]
def JQ(e sz bytes:Nat)(n c:PV)(st:St):Option (PV×St):=match n,c with
  | .int .i64 0,.int .i64 b=>if 0<=b/\bytes*b.toNat<=dB/\b<=140737488355328/\0<sz then
    some (.list 0 [] (.own st.nx e),st.more [0])
   else none
  |_,_=>none
def JM(e sz bytes:Nat)(d:Option Nat)(zs:List PV)(n c:PV)(st:St):Option (PV×St):=match d,n,c with
  |some s,.int .i64 a,.int .i64 b=>if a=b/\0<=a/\bytes*a.toNat<=dB/\a<=140737488355328/\zs.length=sz/\0<sz then
    some (.osl e sz s a.toNat,bP st s (List.replicate a.toNat zs).flatten)
   else none
  |_,_,_=>none
def LK{e sz bytes:Nat}{b:Int}{st:St}(h1:0<=b)(h2:bytes*b.toNat<=140737488355328)(h3:b<=140737488355328)(h4:0<sz):JQ e sz bytes (I 0) (I b) st=some (.list 0 [] (.own st.nx e),st.more [0]):=by
 have hb:dB=140737488355328:=rfl;simp only[JQ,hb,h1,h2,h3,h4,kx,if_true]
def EV{e sz bytes s:Nat}{zs:List PV}{a:Int}{st:St}(h1:0<=a)(h2:bytes*a.toNat<=140737488355328)(h3:a<=140737488355328)(h4:zs.length=sz)(h5:0<sz):JM e sz bytes (some s) zs (I a) (I a) st=some (.osl e sz s a.toNat,bP st s (List.replicate a.toNat zs).flatten):=by
 have hb:dB=140737488355328:=rfl;simp only[JM,hb,h1,h2,h3,h4,h5,kx,if_true]
def jk:
  (∀ {cf:aA} {fr:Fr} {st:St} {d:Option Nat} {e sz b:Nat} {n c:CX},aw cf fr st d (.mk0 e sz b n c)=JQ e sz b (n.ev fr) (c.ev fr) st)/\
  (∀ {cf:aA} {fr:Fr} {st:St} {d:Option Nat} {e sz b:Nat} {zs:List PV} {n c:CX},aw cf fr st d (.mks e sz b zs n c)=JM e sz b d zs (n.ev fr) (c.ev fr) st)/\
  (∀ {t:Nat} {Q:PV->Option Nat->Prop} {fr:Fr} {st:St},q7 [.tmp t] Q .ret (fr,st)↔DS Q (fr t) st)/\(∀ {a sz:Nat} {ag:Bool} {Q:PV->Option Nat->Prop} {fr:Fr} {st:St},q7 [.cell a sz ag] Q .ret (fr,st)↔DT Q (ve (fr a) sz ag st) st)/\
  (∀ {p:PV} {Q:PV->Option Nat->Prop} {st:St},DT Q (some p) st↔DS Q p st)/\(∀ {s off sz:Nat} {ag:Bool} {st:St},ve (.ptr s off) sz ag st=wc (st.objs s) off sz ag)/\
  (∀ {st:St} {ns:List Nat},(st.more ns).objs=st.objs)/\(∀ {st:St} {ns:List Nat},(st.more ns).maps=st.maps)/\(∀ {st:St} {ns:List Nat},(st.more ns).nx=st.nx+ns.length):=
 ⟨by intros;rfl,by intros;rfl,I4 (nn.2 trivial),G6 (nn.2 trivial),Iff.rfl,rfl,fun{st ns}=>St.more_objs st ns,fun{st ns}=>St.more_maps st ns,fun{st ns}=>St.more_nx st ns⟩
mutual
theorem pZ(K:Nat->Bool):∀ p:PV,tf K (aC p)=true
 | .list n cs t=>by
  have ih:=kR K cs;rw[eF];simp only[tf,ih,bg];rfl
 | .iptr cs o t=>by
  have ih:=kR K cs;simp only[aC,aF,ren]at ih ⊢;simp only[tf,ih,bg];cases t<;>rfl
 | .agg cs=>by have ih:=kR K cs;simp only[aC,aF,ren,tf]at ih ⊢;exact ih
 | .tup cs=>by have ih:=kR K cs;simp only[aC,aF,ren,tf]at ih ⊢;exact ih
 | .fn g cs=>by have ih:=kR K cs;simp only[aC,aF,ren,tf]at ih ⊢;exact ih
 | .any| .hole| .int _ _| .bool _| .str _| .nilp| .nili| .err| .ptr _ _| .osl _ _ _ _| .mp _=>rfl
theorem kR(K:Nat->Bool):∀ ps:List PV,dw K (aF ps)=true
 | []=>rfl
 |p::ps=>by
  have h1:=pZ K p;have h2:=kR K ps;simp only[aC,aF,aZ,dw]at h1 h2 ⊢;rw[h1,h2];rfl
end
def jU{J:List Nat}{p:PV}(h:cT p):bV J p=p:=by
 have:=pZ (J.contains ·) p;rw[h.2.1]at this;rw[bV,ak this]
def wd{J:List Nat}{s o:Nat}:bV J (.ptr s o)= .ptr s o:=rfl
def lv{J:List Nat}{p:PV}(h:aJ p=true)(hk:∀ q∈ar p,q.1∉J):bV J p=p:=by
 rw[bV,ak (sb _ p h fun q hq=>by simpa using hk q hq)]
def s9{J:List Nat}:∀ {cs:List PV},cK cs->cs.map (bV J)=cs
 | [],_=>rfl
 |c::cs,h=>by
  have h1:=kR (J.contains ·) (c::cs);rw[h.2.1]at h1;simp only[dw,ae]at h1;have:∀ {ds:List PV},dw (J.contains ·) ds=true->ds.map (bV J)=ds:=by
   intro ds hd
   induction ds with
   |nil=>rfl
   |cons d ds ih=>
    simp only[dw,ae]at hd;rw[aH,ih hd.2,bV,ak hd.1]
  exact this (by simp only[dw,h1.1,h1.2,ap])
def A7{J:List Nat}{cs:List PV}(h:aY cs=true)(hk:∀ q∈al cs,q.1∉J):cs.map (bV J)=cs:=by
 have hd:=kS (J.contains ·) cs h fun q hq=>by simpa using hk q hq
 clear h hk
 induction cs with
 |nil=>rfl
 |cons d ds ih=>
  simp only[dw,ae]at hd;rw[aH,ih hd.2,bV,ak hd.1]
def tc(J:List Nat)(fr:Fr):Fr:=fun t=>bV J (fr t)
def dI(J ns:List Nat)(st:St):St:={st.more ns with objs:=ix J st.objs,maps:=kl J st.maps,cnt:=(fun t=>if J.contains t then 0 else(st.more ns).cnt t),fl:=st.fl}
def kr{st:St}{A B C:List (Nat×Nat)}{ns:List Nat}(h:aL st (A++B++C))(hf:st.fl<=st.nx):aL (dI (B.map (·.1)) ns st) (A++cj st.nx ns++C):=by
 have hd:∀ q,q∈A\/q∈C->q.1∉B.map (·.1):=by
  intro q hq hb;obtain⟨x,hx,he⟩:=cA.1 hb;have h1:=h.1 q.1;rw[bh,bh]at h1;have h2:=fT.2 ⟨x,hx,he⟩;have h3:0<ck q.1 A\/0<ck q.1 C:=hq.imp (fun hq=>fT.2 ⟨q,hq,rfl⟩) (fun hq=>fT.2 ⟨q,hq,rfl⟩);omega
 have ho:∀ q,q∈A\/q∈C->q.1<st.nx/\st.cnt q.1=q.2/\st.fl<=q.1:=fun q hq=>h.2 q (by simp only[ay];rcases hq with h|h<;>simp[h])
 have hB:∀ q∈B,q.1<st.nx:=fun q hq=>(h.2 q (by simp[hq])).1;refine⟨fun k=>?_,fun q hq=>?_⟩
 ·have h1:=h.1 k;rw[bh,bh]at h1 ⊢;have h2:= @nM st.nx k ns;by_cases hk:k<st.nx
  ·have:ck k (cj st.nx ns)=0:=rV fun q hq=>by have:=jC hq;omega
   omega
  ·have e1:ck k A=0:=rV fun q hq=>by have:=(ho q (.inl hq)).1;omega
   have e2:ck k C=0:=rV fun q hq=>by have:=(ho q (.inr hq)).1;omega
   omega
 ·have hq':(q∈A\/q∈C)\/q∈cj st.nx ns:=by
   simp only[ay]at hq;rcases hq with(h|h)|h<;>simp[h]
  show q.1<(st.more ns).nx/\(if(B.map (·.1)).contains q.1 then 0 else(st.more ns).cnt q.1)=q.2/\st.fl<=q.1;rw[St.more_nx];rcases hq' with hq|hq
  ·obtain⟨h1,h2,h3⟩:=ho q hq;have:=hd q hq;rw[ad (by simpa using this),St.more_old _ _ h1];exact⟨by omega,h2,h3⟩
  ·obtain⟨h1,h2,h3⟩:=jC hq;have:q.1∉B.map (·.1):=by
    intro hb;obtain⟨x,hx,he⟩:=cA.1 hb;have:=hB x hx;omega
   rw[ad (by simpa using this),St.more_new _ _ h1 h2];exact⟨by omega,h3,by omega⟩
section
variable {cf:aA} {f:Nat} {F:bp} {st:St} {rs:List hZ} {n:Nat} {cs rest:List PV} {tk:aB}
def pH:∀ (rest:List PV) (i:Nat),0<i->fQ [0] i rest=[]
 | [],_,_=>rfl
 |p::ps,i,h=>by
  have:([0]:List Nat).contains i=false:=by simp;omega
  rw[fQ,this,pH ps (i+1) (by omega)];rfl
def yG(mv:List Nat):∀ (ps:List PV) (i:Nat),ps.all bR=true->jx mv i ps=[]
 | [],_,_=>rfl
 |p::ps,i,h=>by
  rw[cN,ae]at h;have ih:=yG mv ps (i+1) h.2;cases p<;>first|exact ih|exact absurd h.1 (by simp[bR])
def CK(hr:rest.all bR=true):dJ [0] (.list n cs tk::rest) []=ar (.list n cs tk):=by
 have h:rX (jx [0] 0 (.list n cs tk::rest)) []=[]:=by cases jx [0] 0 (.list n cs tk::rest)<;>rfl
 rw[dJ,h,fQ,pH _ _ (by omega)];simp
def qU(J:List Nat):∀ (rest:List PV) (i k:Nat),0<i->rest.all bR=true->eX J [0] i k rest=rest.map aC
 | [],_,_,_,_=>rfl
 |p::ps,i,k,h,hr=>by
  rw[cN,ae]at hr;have ih:=fun m=>qU J ps (i+1) m (by omega) hr.2;have hc:([0]:List Nat).contains i=false:=by simp;omega
  cases p<;>first|(simp only[eX,hc,ih,aH];rfl)|exact absurd hr.1 (by simp[bR])
def Ko(hn:np (.list n cs tk)=true)(hk:aL st (ar (.list n cs tk)))(hr:rest.all bR=true)(hsp:gU ((ar (.list n cs tk)).map (·.1)) [0] 1 rest=true){r:PV}{ns:List Nat}
  (hc:cf f (ren (aT ((ar (.list n cs tk)).map (·.1))) false (.list n cs tk)::rest.map aC) ((ar (.list n cs tk)).map (·.2)) []=some (r,ns,[])) (hs:aJ r=true):
  av cf f (.list n cs tk::rest) [0] st=some (ren (fun k=>some (st.nx+k)) false r,dI ((ar (.list n cs tk)).map (·.1)) ns st)/\cD (.list n cs tk::rest) [0] st=(ar (.list n cs tk)).map (·.1):=by
 have hkeys:cX (.list n cs tk::rest)=some []:=by
  rw[cX,ak hn]
  ·exact fj hr
  ·intros;contradiction
 have hm:=CK (n:=n) (cs:=cs) (tk:=tk) hr;have hb:lh ((ar (.list n cs tk)).map (·.1)) (jx [0] 0 (.list n cs tk::rest)) []=[]:=by cases jx [0] 0 (.list n cs tk::rest)<;>rfl
 have hbs:∀ J l,mD J l []=true:=by intro J l;cases l<;>rfl
 have hh:eX ((ar (.list n cs tk)).map (·.1)) [0] 0 0 (.list n cs tk::rest)=ren (aT ((ar (.list n cs tk)).map (·.1))) false (.list n cs tk)::rest.map aC:=by
  rw[eX,qU _ _ _ _ (by omega) hr]
  ·rfl
  ·intros;contradiction
 have hs2:gU ((ar (.list n cs tk)).map (·.1)) [0] 0 (.list n cs tk::rest)=true:=by rw[gU,hsp];rfl
 constructor
 ·simp only[av,hkeys,dl,hm,mf hk.1,hk.ok,hs2,hbs,hb,ap,if_true,hh,hc,kf r hs,cU,aO,fi];rfl
 ·simp only[cD,hkeys,dl,hm]
def uq{e n:Nat}{cs:List PV}{tk:aB}(h:ml (.list n cs tk)=some e):∃ k,tk= .own k e:=by
 cases tk with
 |own k e'=>simp only[ml,bo]at h;exact⟨k,by rw[h]⟩
 |_=>simp[ml]at h
def mS(e:Nat)(tk:aB):Prop:=tk= .nil\/∃ k,tk= .own k e
def DM{o:Option (PV×St)}{mk:PV->St->Fr×St}{A:Fr×St->Prop}{v:PV}{J:List Nat}{e:Nat}{X:Prop}(h:∃ r ns,o=some (r,dI J ns st)/\cR st.nx ns r/\aC r=v/\ml r=some e/\X)(k:∀ r ns,cR st.nx ns r->aC r=v->ml r=some e/\X->A (mk r (dI J ns st))):cP o mk A:=by
 obtain⟨r,ns,rfl,hF,hQ,hX⟩:=h;exact⟨_,_,rfl,k r ns hF hQ hX⟩
end
def nV:
  (∀ {cf:aA} {f:Nat} {as:List CX} {d:Option Nat} {st:St} {fr:Fr},cJ cf (.call f as [0]) d st fr=tc (cD (as.map (·.ev fr)) [0] st) fr)/\(∀ {J:List Nat} {fr:Fr} {t:Nat},tc J fr t=bV J (fr t))/\
  (∀ {J:List Nat} {k:IntKind} {n:Int},bV J (.int k n)= .int k n)/\(∀ {J:List Nat} {b:Bool},bV J (.bool b)= .bool b)/\(∀ {J:List Nat} {s:ByteArray},bV J (.str s)= .str s)/\(∀ {J:List Nat} {s o:Nat},bV J (.ptr s o)= .ptr s o)/\(∀ {J:List Nat} {e z s n:Nat},bV J (.osl e z s n)= .osl e z s n)/\
  (∀ {J ns:List Nat} {st:St} {s:Nat},(dI J ns st).objs s=(st.objs s).map fun c=>c.map (bV J))/\(∀ {c:List PV} {g:List PV->List PV},(some c).map g=some (g c)):=
 ⟨rfl,rfl,rfl,rfl,rfl,rfl,rfl,rfl,rfl⟩
end Go.PM
