import Derived.Test.YtdldhfocpandoaaGreatCkG
noncomputable section
set_option maxHeartbeats 8000000
set_option maxRecDepth 8000
namespace Go.Ck
open Go.Sx
def eL:List (Nat×ET):=[(0,{cells:=[.str 1 1 1],base:=0,deep:=0,inv:=[⟨-1,[(0,1)]⟩]}),
 (1,{cells:=[.str 1 1 1],base:=0,deep:=0,inv:=[]}),
 (2,{cells:=[.kd 0,.str 1 1 1,.str 1 1 1,.int .i64 0,.int .i64 0,.str 1 1 1,.int .i64 0,.int .i64 0,.str 1 1 1,.int .i64 0,.int .i64 0,.int .i64 0,.str 1 1 1,.str 1 1 1,.fz 1 1,.fz 2 1],base:=13,deep:=0,inv:=[⟨1,[(15,1),(0,-1)]⟩]}),
 (3,{cells:=[.int .i64 1,.str 10000 10000 10000,.int .i64 1],base:=1,deep:=0,inv:=[]}),
 (4,{cells:=[.str 1 1 1,.bool 1,.int .i64 1,.str 1 1 1,.str 1 1 1,.int .i64 1,.int .i64 1,.str 1 1 1,.int .i64 1,.int .i64 1,.str 1 1 1,.int .i64 1,.int .i64 1,.int .i64 1,.str 1 1 1,.str 1 1 1,.fz 1 1,.fz 2 1],base:=6,deep:=0,inv:=[]}),
 (5,{cells:=[.str 250000 250000 250000,.str 250000 250000 250000],base:=1,deep:=0,inv:=[],up:=true}),
 (6,{cells:=[.bool 1,.str 250000 250000 250000,.fz 5 1,.str 250000 250000 250000,.int .i64 0,.int .i64 0,.fz 6 1],base:=250000,deep:=0,inv:=[]}),
 (7,{cells:=[.int .i64 1,.str 1 1 1,.str 1 1 1,.fz 4 1,.fz 4 1,.bool 1,.int .i64 1,.str 1 1 1,.str 1 1 1,.int .i64 1,.int .i64 1,.str 1 1 1,.int .i64 1,.int .i64 1,.str 1 1 1,.int .i64 1,.int .i64 1,.int .i64 1,.str 1 1 1,.str 1 1 1,.fz 1 1,.fz 2 1,.int .i64 1,.str 1 1 1,.str 1 1 1,.int .i64 1,.int .i64 1,.str 1 1 1,.int .i64 1,.int .i64 1,.str 1 1 1,.int .i64 1,.int .i64 1,.int .i64 1,.str 1 1 1,.str 1 1 1,.fz 1 1,.fz 2 1,.int .i64 1,.int .i64 1,.int .i64 1,.str 1 1 1,.str 1 1 1,.fz 8 1,.fz 9 1,.fz 10 1,.fz 11 1,.fz 7 1,.fz 7 1,.int .i64 1,.int .i64 1],base:=13,deep:=0,inv:=[]}),
 (8,{cells:=[.int .i64 1,.str 1 1 1,.str 1 1 1,.int .i64 1,.int .i64 1,.str 1 1 1,.int .i64 1,.int .i64 1,.str 1 1 1,.int .i64 1,.int .i64 1,.int .i64 1,.str 1 1 1,.str 1 1 1,.fz 1 1,.fz 2 1,.bool 1,.bool 1,.str 1 1 1],base:=6,deep:=0,inv:=[]}),
 (9,{cells:=[.str 1 1 1,.int .i64 1,.int .i64 1,.int .i64 1,.str 1 1 1,.str 1 1 1,.bool 1,.int .i64 1,.str 1 1 1,.str 1 1 1,.int .i64 1,.int .i64 1,.str 1 1 1,.int .i64 1,.int .i64 1,.str 1 1 1,.int .i64 1,.int .i64 1,.int .i64 1,.str 1 1 1,.str 1 1 1,.fz 1 1,.fz 2 1,.fz 7 1],base:=8,deep:=0,inv:=[]}),
 (10,{cells:=[.int .i64 1,.str 1 1 1,.str 1 1 1,.int .i64 1,.int .i64 1,.str 1 1 1,.int .i64 1,.int .i64 1,.str 1 1 1,.int .i64 1,.int .i64 1,.int .i64 1,.str 1 1 1,.str 1 1 1,.fz 1 1,.fz 2 1,.fz 8 1],base:=6,deep:=0,inv:=[]}),
 (11,{cells:=[.ar .i64 1 1,.fz 7 1],base:=1,deep:=0,inv:=[]}),
 (12,{cells:=[.fz 2 1,.bool 1,.int .i64 1,.str 1 1 1,.str 1 1 1,.int .i64 1,.int .i64 1,.str 1 1 1,.int .i64 1,.int .i64 1,.str 1 1 1,.int .i64 1,.int .i64 1,.int .i64 1,.str 1 1 1,.str 1 1 1,.fz 1 1,.fz 2 1],base:=6,deep:=0,inv:=[]}),
 (13,{cells:=[.int .i64 1,.str 1 1 1],base:=1,deep:=0,inv:=[]}),
 (14,{cells:=[.str 1 1 1,.fz 15 1,.fz 16 1,.fz 17 1,.fz 18 1,.fz 19 1,.fz 20 1,.fz 21 1,.fz 22 1,.fz 23 1],base:=1,deep:=0,inv:=[]}),
 (15,{cells:=[.str 1 1 1,.pt 14 1 1,.int .i64 1,.int .i64 1],base:=1,deep:=0,inv:=[]}),
 (16,{cells:=[.fz 2 1,.str 1 1 1,.fz 1 1,.bool 1,.str 1 1 1,.fz 9 1,.fz 7 1,.str 1 1 1,.int .i64 1,.int .i64 1,.int .i64 1,.int .i64 1],base:=1,deep:=0,inv:=[]}),
 (17,{cells:=[.str 1 1 1,.fz 9 1,.int .i64 1,.int .i64 1,.int .i64 1,.str 1 1 1,.str 1 1 1,.int .i64 1,.str 1 1 1,.str 1 1 1,.int .i64 1,.int .i64 1,.str 1 1 1,.int .i64 1,.int .i64 1,.str 1 1 1,.int .i64 1,.int .i64 1,.int .i64 1,.str 1 1 1,.str 1 1 1,.fz 1 1,.fz 2 1,.str 1 1 1,.int .i64 1,.int .i64 1,.int .i64 1],base:=8,deep:=0,inv:=[]}),
 (18,{cells:=[.str 1 1 1,.bool 1,.int .i64 1,.int .i64 1,.int .i64 1,.str 1 1 1,.str 1 1 1,.bool 1,.int .i64 1,.str 1 1 1,.str 1 1 1,.int .i64 1,.int .i64 1,.str 1 1 1,.int .i64 1,.int .i64 1,.str 1 1 1,.int .i64 1,.int .i64 1,.int .i64 1,.str 1 1 1,.str 1 1 1,.fz 1 1,.fz 2 1,.fz 7 1,.str 1 1 1,.int .i64 1,.int .i64 1,.int .i64 1],base:=8,deep:=0,inv:=[]}),
 (19,{cells:=[.str 1 1 1,.fz 2 1,.int .i64 1,.str 1 1 1,.str 1 1 1,.int .i64 1,.int .i64 1,.str 1 1 1,.int .i64 1,.int .i64 1,.str 1 1 1,.int .i64 1,.int .i64 1,.int .i64 1,.str 1 1 1,.str 1 1 1,.fz 1 1,.fz 2 1],base:=6,deep:=0,inv:=[]}),
 (20,{cells:=[.str 1 1 1,.int .i64 1,.str 1 1 1,.str 1 1 1,.int .i64 1,.int .i64 1,.str 1 1 1,.int .i64 1,.int .i64 1,.str 1 1 1,.int .i64 1,.int .i64 1,.int .i64 1,.str 1 1 1,.str 1 1 1,.fz 1 1,.fz 2 1,.fz 12 1],base:=6,deep:=0,inv:=[]}),
 (21,{cells:=[.str 1 1 1,.str 1 1 1,.bool 1,.bool 1,.str 1 1 1,.int .i64 1],base:=1,deep:=0,inv:=[]}),
 (22,{cells:=[.str 1 1 1,.str 1 1 1,.bool 1,.bool 1,.fz 1 1],base:=1,deep:=0,inv:=[]}),
 (23,{cells:=[.str 1 1 1,.fz 13 1],base:=1,deep:=0,inv:=[]}),
 (24,{cells:=[.int .i64 0,.str 250000 250000 250000,.str 250000 250000 250000,.fz 5 1,.int .i64 0,.int .i64 0],base:=250010,deep:=0,inv:=[],up:=true}),
 (25,{cells:=[.kd 0,.str 0 0 0,.str 0 0 1,.int .i64 0],base:=0,deep:=0,inv:=[⟨-1,[(1000,1),(3,-1)]⟩,⟨1,[(3,1),(0,-1)]⟩]}),
 (26,{cells:=[.fz 1 1],base:=0,deep:=0,inv:=[]})]
--0 nestr,1 str,2 expr,3 tok,4 part,5 attr,6 node,7 instr,8 sort,9 param,10 source,11 catch,12 rule,13 swap,14 sheet,15 use,16 template,17 def,18 global,19 key,20 accum,21 mode,22 output,23 charmap,24 ev,25 tnode,26 e44
def eT:Ar:=λe=>(Ck.get eL e).getD {cells:=[],base:=0,deep:=0,inv:=[]}
def lkL:List (Nat×LK):=[(22,.ar .u8),(26,.fz 15),(27,.fz 16),(28,.fz 17),(29,.fz 18),(30,.fz 19),(31,.fz 20),(32,.fz 21),(33,.fz 22),(34,.fz 23),(44,.fz 1),(46,.fz 14),(56,.fz 7),(57,.fz 4),(64,.fz 2),(67,.fz 8),(68,.fz 9),(69,.fz 10),(70,.fz 11),(78,.fz 24),(107,.fz 5),(112,.fz 25),(117,.fz 6),(149,.fz 12),(160,.fz 13),(262,.ar .i64),(333,.fz 3),(396,.fz 26)]
def V_(t:Nat):LK:=(Ck.get lkL t).getD .no
namespace Tb
open Tm
instance:Add Tm:=⟨.add⟩
instance:Sub Tm:=⟨λa b=>.add a (.mul (-1) b)⟩
instance{n:Nat}:OfNat Tm n:=⟨.k n⟩
instance:Mul Tm:=⟨λa b=>match a with| .k c=>.mul c b|_=>a⟩
abbrev HH:=Nat×List BL
abbrev OL:=List (Option A7)
abbrev o:Option A7:=none
abbrev A:=PA.agg
def s:A7:=.str
def S:=PA.one s
def js:=some s
def u:A7:=.boolu
def U:=PA.one u
def b:A7:=.bool
def B:=PA.one b
def f:A7:=.flt
def F:=PA.one f
def i:A7:=.int .i64
def I:=PA.one i
def ji:=some i
def w:A7:=.int .u64
def W:=PA.one w
def y:A7:=.int .u8
def Y:=PA.one y
def t:A7:=.boolc true
def T:=PA.one t
def jt:=some t
def n:A7:=.boolc false
def N:=PA.one n
def jn:=some n
def r:A7:=.ar .i64
def R:=PA.one r
def kd:A7:=.kd
def any:A7:=.any
def sk:A7:=.sk
def z0:A7:=.fz 0
def Z0:=PA.one z0
def z1:A7:=.fz 1
def Z1:=PA.one z1
def Jr:=some z1
def z2:A7:=.fz 2
def Z2:=PA.one z2
def Js:=some z2
def z3:A7:=.fz 3
def Z3:=PA.one z3
def z4:A7:=.fz 4
def Z4:=PA.one z4
def z5:A7:=.fz 5
def z6:A7:=.fz 6
def Z6:=PA.one z6
def z7:A7:=.fz 7
def Z7:=PA.one z7
def z8:A7:=.fz 8
def Z8:=PA.one z8
def z9:A7:=.fz 9
def Z9:=PA.one z9
def z10:A7:=.fz 10
def z11:A7:=.fz 11
def z12:A7:=.fz 12
def z13:A7:=.fz 13
def z15:A7:=.fz 15
def z16:A7:=.fz 16
def z17:A7:=.fz 17
def z18:A7:=.fz 18
def z19:A7:=.fz 19
def z20:A7:=.fz 20
def z21:A7:=.fz 21
def z22:A7:=.fz 22
def z23:A7:=.fz 23
def z24:A7:=.fz 24
def Z24:=PA.one z24
def z25:A7:=.fz 25
def v0:=v 0
def v1:=v 1
def v2:=v 2
def v3:=v 3
def v4:=v 4
def v5:=v 5
def v6:=v 6
def v7:=v 7
def v8:=v 8
def v9:=v 9
def Ep:=v 10
def CJ:=v 11
def DZ:=v 12
def Er:=v 13
def HJ:=v 14
def Dm:=v 15
def Bz:=v 16
def Fs:=v 17
def Cj:=v 18
def Ce:=v 19
def Ds:=v 20
def I9:=v 21
def JB:=v 22
def LQ:=v 23
def K4:=v 24
def v25:=v 25
def v26:=v 26
def WV:=v 27
def v28:=v 28
def QT:=v 29
def WW:=v 30
def m0:=m 0
def m1:=m 1
def m2:=m 2
def m3:=m 3
def m4:=m 4
def m5:=m 5
def m6:=m 6
def m7:=m 7
def m8:=m 8
def m9:=m 9
def Qk:=m 10
def FQ:=m 11
def Ql:=m 12
def VB:=m 13
def GS:=m 14
def Ek:=m 15
def Iu:=m 16
def FR:=m 17
def DX:=m 18
def Lv:=m 19
def m20:=m 20
def m21:=m 21
def m24:=m 24
def Qm:=m 25
def Qn:=m 26
def m27:=m 27
def m30:=m 30
def BX:List A7:=[i,i,i]
def Cu:OL:=[o,o,o]
def Dw:OL:=[o,ji,o]
def CO:List A7:=[z3,i,n]
def DL:List A7:=[z3,i,t]
def Da:OL:=[o,ji,jt]
def GO:OL:=[o,ji,jn]
def Bx:OL:=[ji,ji,ji]
def Gu:List A7:=[i,i,i,s,s]
def GJ:List Tm:=[1000000-v0]
def KQ:List Tm:=[Cj-(m3-1)]
def Mu:List Tm:=[Dm-(m0-1)]
def Mv:List Tm:=[v1-0,v2-v1]
def Mw:List Tm:=[v0-0,v1-v0]
def Aw1:List (Nat×List (Option A7)):=[(0,[o,ji,jn])]
def Aw2:List (Nat×List (Option A7)):=[(0,[o,ji,jt])]
def Aw3:List (Nat×List (Option A7)):=[(0,[ji,ji,ji])]
def BS:List A7:=[u,s,z5,s,i,i,z6]
def Qh:List A7:=[(.own 188 25),i,i]
def ON:List Tm:=[v2-k (-1),k (-1)-v2]
def RY:List Tm:=[1000000-v0,v1-0,v0-v1]
def Tk:OL:=[some (.own 188 25),o,o]
def JO:List Tm:=[1000000-v0,v1-0,v0-v1-1]
def Hk:List Tm:=[Ce-v1,v0-Ce,Cj-(m3-1)]
def Aw4:List (Nat×List (Option A7)):=[(2,[some (.own 188 25),o,o])]
def RZ:List Tm:=[v0-0,v2-v0,v1-v3,v3-v1,v5-m1]
def Vu:BL:=⟨[(0,S)],[],[],[],[v1-v0],v0,[]⟩
def Aws:List BL:=[⟨[(0,S)],[],[],[],[v1-v0],v0,[]⟩]
def Cc:List A7:=[kd,s,s,i,i,s,i,i,s,i,i,i,s,s,z1,z2]
def XH:List Tm:=[v0-1,801-v0,v1-k (-1074),1601-(v1+v0)]
def BJ:List Tm:=[v1-0,v0-v1,1000000000-v0,30000000000-m0]
def Awj:BL:=⟨[(5,I)],[],[0],[],[v0-0,v1-v0],v1-v0,[]⟩
def Awk:BL:=⟨[(3,I)],[],[0],[],[v0-0,v1-v0],v1-v0,[]⟩
def Cs:List Tm:=[100000000000-(m5+m9+250000*v4+250000*v6)]
def Awt:List BL:=[⟨[(5,I)],[],[0],[],[v0-0,v1-v0],v1-v0,[]⟩]
def Awu:List BL:=[⟨[(3,I)],[],[0],[],[v0-0,v1-v0],v1-v0,[]⟩]
def Zx:BL:=⟨[(7,I),(6,I)],[],[4],[],[v0-0,v2-v0],v2-v0,[]⟩
def Awl:BL:=⟨[(5,N),(6,I)],[],[4],[],[v1-0,v2-v1],v2-v1,[]⟩
def Awv:List BL:=[⟨[(7,I),(6,I)],[],[4],[],[v0-0,v2-v0],v2-v0,[]⟩]
def XI:List Tm:=[Ep-0,v9-1-Ep,65536-v9,CJ-0,1048576-CJ,CJ-m9]
def XJ:List Tm:=[v0-v1-1,p 0 (v1+0+1)-p 0 (v1+0)-(10000+10000*v3)]
def XL:List Tm:=[v0-v1-1,p 0 (v1+0+1)-p 0 (v1+0)-(10000+10000*v4)]
def Zy:BL:=⟨[(1,I),(4,I),(5,I)],[],[0],[],[v0-v5,v3-v0],v3-v0,[]⟩
def Sc:List Tm:=[v1-0,v3-v1,1000000000-v3,30000000000-m3,v1-v5,v1+1-v0]
def XM:List Tm:=[v0-v4,v4-(v1+1),v1+1-v4,p 0 v4-p 0 v1-(10000+10000*v3)]
def Aww:List BL:=[⟨[(1,I),(4,I),(5,I)],[],[0],[],[v0-v5,v3-v0],v3-v0,[]⟩]
def Ii:OL:=[some kd,js,js,ji,ji,js,ji,ji,js,ji,ji,ji,js,js,Jr,Js]
def Se:List Tm:=[v0-0,v5-v0,p 5 v0-250000*v0,100000000000-m5,p 5 v0-m1,v0-v1]
def XN:List Tm:=[v2-0,v4-v2,1000000000-v4,30000000000-m4,v2-v6,v2+2-(v0+2*v1)]
def XO:List Tm:=[p 0 (18446744073709551616+v1)-0,0-p 0 (18446744073709551616+v1)]
def Sf:List Tm:=[Bz-0,Cj-Bz,1000000000-Cj,30000000000-DX,Bz-Ds,Dm-(m0-1)]
def XP:List Tm:=[v1-0,v6-v1,p 6 v1-250000*v1,100000000000-m6,v5-v1,p 6 v1-m0,v1-v0]
def XQ:List Tm:=[v0-0,v6-v0,p 6 v0-250000*v0,100000000000-m6,v5-v0,p 6 v0-m1,v0-v1]
def Awm:BL:=⟨[(5,S)],[(4,[o,ji])],[],[],[v0-1,801-v0,v1-k (-1074),1601-(v1+v0)],v0,[]⟩
def Aw5:List (Nat×List (Option A7)):=[(3,[some kd,js,js,ji,ji,js,ji,ji,js,ji,ji,ji,js,js,Jr,Js]),(0,[o,ji,jn])]
def Aw6:List (Nat×List (Option A7)):=[(3,[some kd,js,js,ji,ji,js,ji,ji,js,ji,ji,ji,js,js,Jr,Js]),(0,[o,ji,jt])]
def Aw7:List (Nat×List (Option A7)):=[(4,[some kd,js,js,ji,ji,js,ji,ji,js,ji,ji,ji,js,js,Jr,Js]),(0,[o,ji,jn])]
def Aw8:List (Nat×List (Option A7)):=[(4,[some kd,js,js,ji,ji,js,ji,ji,js,ji,ji,ji,js,js,Jr,Js]),(0,[o,ji,jt])]
def Awx:List BL:=[⟨[(5,S)],[(4,[o,ji])],[],[],[v0-1,801-v0,v1-k (-1074),1601-(v1+v0)],v0,[]⟩]
def XR:List Tm:=[v0-Ce,Ce-v1-1,p 0 Ce-p 0 v1-(v4+v5+v8+CJ+Dm+Bz+FR+DX+8000),Cj-(m3-1)]
def XT:List Tm:=[v1-0,v0-1-v1,65536-v0,v2-0,1048576-v2,v2-m0,1000000-v4,1000000-v5,100000000000-m6]
def XU:List Tm:=[v2-0,v4-v2,1000000000-v4,30000000000-m4,v2-v6-1,v2-v6-v0,p 4 v2-p 5 v6-(m0+15000)]
def Awn:BL:=⟨[(4,.one (.own 66 2))],[(0,[o,ji,jt])],[],[(0,0)],[v1-0,v3-v1,1000000000-v3,30000000000-m3,v1-v5,v1+1-v0],0,[]⟩
def Awo:BL:=⟨[(5,.one (.own 66 2))],[(0,[o,ji,jt])],[],[(0,0)],[v1-0,v3-v1,1000000000-v3,30000000000-m3,v1-v5,v1+1-v0],0,[]⟩
def Fo:List A7:=[i,s,s,z4,z4,u,i,s,s,i,i,s,i,i,s,i,i,i,s,s,z1,z2,i,s,s,i,i,s,i,i,s,i,i,i,s,s,z1,z2,i,i,i,s,s,z8,z9,z10,z11,z7,z7,i,i]
def Tl:OL:=[o,o,o,o,o,o,o,o,o,o,o,o,o,o,o,o,o,o,o,o,o,o,o,o,o,o,o,o,o,o,o,o,o,o,o,o,o,o,o,o,o,o,o,o,o,o,o,some (.own 72 7),o,o,o]
def XV:List Tm:=[Bz-0,Cj-Bz,1000000000-Cj,30000000000-DX,Bz-Ds-1,p 18 Bz-p 19 Ds-(v1+v2+v5+v8+DZ+Er+GS+Ek+6900),Dm-(m0-1)]
def Aw9:List (Nat×List (Option A7)):=[(5,[o,o,o,o,o,o,o,o,o,o,o,o,o,o,o,o,o,o,o,o,o,o,o,o,o,o,o,o,o,o,o,o,o,o,o,o,o,o,o,o,o,o,o,o,o,o,o,some (.own 72 7),o,o,o]),(0,[ji,ji,ji])]
def Gb:List Tm:=[100000*v4+m5+m9+2000-(v 37+m 47+v 34+m 46+v 33+v 40+v 45+v 44+m 56+m 58+m 57+DZ+CJ+VB+I9+m 31+Cj+m30+Fs+K4+QT+v28+GS+m 53+m 55+v 52+v 51+m 54)]
def XX:List Tm:=[100000*v4+m5+m9+2000-(v 40+m 50+v 37+m 49+v 36+v 43+v 48+v 47+m 59+m 61+m 60+Dm+HJ+Iu+K4+m 34+I9+m 33+Ds+WV+v 32+v 31+FR+m 56+m 58+v 55+v 54+m 57)]
def Awp:BL:=⟨[],[(3,[some kd,js,js,ji,ji,js,ji,ji,js,ji,ji,ji,js,js,Jr,Js]),(0,[o,ji,jt])],[],[(0,0)],[Bz-0,Cj-Bz,1000000000-Cj,30000000000-DX,Bz-Ds,Dm-(m0-1)],0,[]⟩
def Awq:BL:=⟨[],[(4,[some kd,js,js,ji,ji,js,ji,ji,js,ji,ji,ji,js,js,Jr,Js]),(0,[o,ji,jt])],[],[(0,0)],[Bz-0,Cj-Bz,1000000000-Cj,30000000000-DX,Bz-Ds,Dm-(m0-1)],0,[]⟩
def HE:List (Nat×List (Option A7)):=[(0,Bx)]
def N_:List (Nat×List (Option A7)):=[(3,Ii),(0,GO)]
def Asw:List (Nat×List (Option A7)):=[(3,Ii),(0,Da)]
def MZ:BL:=⟨[(5,I)],[],[0],[],Mw,v1-v0,[]⟩
def Awy:List BL:=[⟨[(5,I)],[],[0],[],Mw,v1-v0,[]⟩]
def ZD:List BL:=[⟨[(3,I)],[],[0],[],Mw,v1-v0,[]⟩]
def Zz:BL:=⟨[(5,N),(6,I)],[],[4],[],Mv,v2-v1,[]⟩
def Z5:BL:=⟨[(5,S)],[(4,[o,ji])],[],[],XH,v0,[]⟩
def Awz:List BL:=[⟨[(5,S)],[(4,[o,ji])],[],[],XH,v0,[]⟩]
def Awr:BL:=⟨[],[(3,Ii),(0,Da)],[],[(0,0)],Sf,0,[]⟩
def Z_:BL:=⟨[],[(4,Ii),(0,Da)],[],[(0,0)],Sf,0,[]⟩
def ZA:BL:=⟨[(4,.one (.own 66 2))],[(0,Da)],[],[(0,0)],Sc,0,[]⟩
def ZB:BL:=⟨[(5,.one (.own 66 2))],[(0,Da)],[],[(0,0)],Sc,0,[]⟩
def Na:BL:=⟨[],Asw,[],[(0,0)],Sf,0,[]⟩
end Tb
open Tm Tb
def c24:List Con:=[{ref:=none,args:=[.one (.fz 24)],facts:=[.add (.k (400)) (.mul (-1) (.v 0))],layer:=0,meas:=.k (0),posts:=[{res:=[.one (.boolc true)],mem:=[],facts:=[.add (.k (60000000000)) (.mul (-1) (.m 0))]},
 {res:=[.one (.boolc false)],mem:=[],facts:=[]}]},
 {ref:=none,args:=[.one (.fz 24)],facts:=[.add (.v 0) (.mul (-1) (.k (401)))],layer:=0,meas:=.k (0),posts:=[{res:=[.one (.boolc false)],mem:=[],facts:=[]}]}]
def c25:List Con:=[{ref:=none,args:=[.one (.fz 24)],facts:=[.add (.k (60000000000)) (.mul (-1) (.m 0))],layer:=69,meas:=.k (0),posts:=[{res:=[.agg [.str,.fz 15,.fz 16,.fz 17,.fz 18,.fz 19,.fz 20,.fz 21,.fz 22,.fz 23],.one (.int .i64),.one (.int .i64),.one (.int .i64)],mem:=[],facts:=[.add (.add (.m 0) (.k (2000))) (.mul (-1) (.add (.add (.add (.add (.add (.add (.add (.add (.add (.m 7) (.m 4)) (.m 5)) (.m 6)) (.m 10)) (.m 8)) (.v 1)) (.m 9)) (.m 3)) (.m 2)))]}]}]
def c46:List Con:=[⟨none,[Z24],[100000000000-m0],6,0,[⟨[A [z25],I],[],[]⟩]⟩]
def Gg:List Con:=[{ref:=none,args:=[.one (.fz 24),.one (.int .i64)],facts:=[.add (.v 1) (.mul (-1) (.k (0))),.add (.v 0) (.mul (-1) (.v 1)),.add (.k (100000000000)) (.mul (-1) (.m 0))],layer:=0,meas:=.add (.v 0) (.mul (-1) (.v 1)),posts:=[{res:=[.one (.fz 6),.one (.int .i64)],mem:=[],facts:=[.add (.v 3) (.mul (-1) (.v 1)),.add (.add (.mul (2) (.v 0)) (.mul (-1) (.v 1))) (.mul (-1) (.v 3)),.add (.add (.p 0 (.v 3)) (.mul (-1) (.p 0 (.v 1)))) (.mul (-1) (.m 2))]}]}]
def c48:List Con:=[⟨none,[Z6],[100000000000-m0],3,0,[⟨[Z6],[],[m0-m1,v0-v1]⟩]⟩]
def c49:List Con:=[⟨some (125,BX),[A BS,I,Z1],[Ep-0,CJ-Ep,100-CJ,100000000000-(m5+m9+250000*v4+250000*v6)],1,0,[⟨[],Bx,[]⟩]⟩]
def c50:List Con:=[⟨some (125,BX),[A BS,S],Cs,3,0,[⟨[S],Bx,[m5-12*CJ]⟩]⟩]
def c51:List Con:=[⟨some (125,BX),[A BS,I],Cs,0,0,[⟨[],Bx,[]⟩]⟩]
def c52:List Con:=[⟨some (125,BX),[A BS,B],Cs,68,m9+100,[⟨[A [s,z15,z16,z17,z18,z19,z20,z21,z22,z23]],Bx,[m9+2000-(FR+GS+Ek+Iu+m20+DX+CJ+Lv+VB+Ql)]⟩]⟩]
def c98:List Con:=[⟨none,[A Qh,A [i,s,s,z5,i,i]],XT,5,0,[⟨[A Qh,I],[],XI⟩]⟩]
def c99:List Con:=[⟨none,[A BS],[1000000-v3],2,0,[⟨[U],[],[]⟩]⟩]
def c100:List Con:=[⟨none,[Z1,S],[],0,0,[⟨[U],[],[]⟩]⟩]
def c101:List Con:=[⟨none,[A BS,S],[],0,0,[⟨[S,T],[],[m2-(250000*v8+250000)]⟩,⟨[S,N],[],[v8-0,0-v8]⟩]⟩]
def c102:List Con:=[⟨none,[S],[2000000-v0],2,0,[⟨[T],[],[v0-1]⟩,⟨[N],[],[]⟩]⟩]
def c103:List Con:=[⟨some (125,BX),[A BS],Cs,67,0,[⟨[A [z2,s,z1,u,s,z9,z7,s,i,i,i,i]],Bx,[100000*v4+m5+m9+2000-(Iu+Qk+Ql+CJ+Ek+HJ+Fs)]⟩]⟩]
def c104:List Con:=[⟨some (125,BX),[A BS],Cs,67,0,[⟨[A [s,z9,i,i,i,s,s,i,s,s,i,i,s,i,i,s,i,i,i,s,s,z1,z2,s,i,i,i]],Bx,[100000*v4+m5+m9+2000-(JB+m 32+Ce+m 31+Cj+v25+WW+QT+Ep+FQ+Bz+Dm+v 33)]⟩]⟩]
def c105:List Con:=[⟨some (125,BX),[A BS,B],Cs,66,0,[⟨[A [s,u,i,i,i,s,s,u,i,s,s,i,i,s,i,i,s,i,i,i,s,s,z1,z2,z7,s,i,i,i]],Bx,[100000*v4+m5+m9+2000-(m 35+CJ+K4+m 34+I9+m 33+Ds+WV+v 32+v 31+Fs+Bz+v 36)]⟩]⟩]
def c106:List Con:=[⟨some (125,BX),[A BS,S],Cs,63,0,[⟨[Z2],Bx,[m5-12*FQ]⟩]⟩]
def c107:List Con:=[⟨some (125,BX),[A BS,S],Cs,62,0,[⟨[A Cc,U],Bx,[m5-12*(DZ+Er+Bz+Ce+LQ+K4+Qm+Qn),v26-(FQ-1)]⟩]⟩]
def c108:List Con:=[⟨some (125,BX),[A BS],Cs,4,0,[⟨[],Bx,[]⟩]⟩]
def c109:List Con:=[⟨some (125,BX),[A BS],Cs,64,0,[⟨[A [s,i,s,s,i,i,s,i,i,s,i,i,i,s,s,z1,z2,z12]],Bx,[100000*v4+m5+m9+2000-(Bz+Qn+Er+Qm+DZ+Ce+K4+LQ+m27+Ep)]⟩]⟩]
def c110:List Con:=[⟨some (125,BX),[A BS,S,Z1],[CJ-1,100000000000-(m5+m9+250000*v4+250000*v6)],1,0,[⟨[S],Bx,[m5+12*FQ-12*DZ]⟩]⟩]
def c111:List Con:=[⟨some (125,BX),[A BS,S],Cs,2,0,[⟨[U],Bx,[]⟩]⟩]
def c112:List Con:=[⟨some (125,BX),[A BS,S],Cs,3,0,[⟨[Z1],Bx,[m5-12*FQ]⟩]⟩]
def c113:List Con:=[⟨some (125,BX),[A BS],Cs,5,0,[⟨[A [s,z13]],Bx,[100000*v4+m5+m9+2000-(FQ+Ep)]⟩]⟩]
def c114:List Con:=[⟨some (125,BX),[A BS],Cs,68,m9+90,[⟨[A [s,(.pt 14),i,i]],Bx,[100000*v4+m5+m9+2000-(Ep+FQ)]⟩]⟩]
def c170:List Con:=[⟨none,[A Qh,A [i,s,s,z5,i,i]],XT,4,0,[⟨[A Qh,I],[],XI⟩]⟩]
def If:List Con:=[{ref:=none,args:=[.agg [.own 188 25,.int .i64,.int .i64],.one (.str)],facts:=[.add (.v 1) (.mul (-1) (.k (0))),.add (.add (.v 0) (.mul (-1) (.k (1)))) (.mul (-1) (.v 1)),.add (.k (65536)) (.mul (-1) (.v 0)),.add (.v 2) (.mul (-1) (.k (0))),.add (.k (1048576)) (.mul (-1) (.v 2)),.add (.v 2) (.mul (-1) (.m 0)),.add (.k (1000000)) (.mul (-1) (.v 3))],layer:=3,meas:=.k (0),posts:=[{res:=[.agg [.own 188 25,.int .i64,.int .i64],.one (.int .i64)],mem:=[],facts:=[.add (.v 5) (.mul (-1) (.k (0))),.add (.add (.v 4) (.mul (-1) (.k (1)))) (.mul (-1) (.v 5)),.add (.k (65536)) (.mul (-1) (.v 4)),.add (.v 6) (.mul (-1) (.k (0))),.add (.k (1048576)) (.mul (-1) (.v 6)),.add (.v 6) (.mul (-1) (.m 4))]}]}]
def c172:List Con:=[⟨none,[I,S,S],[1000000-v2,1000000-v1],3,0,[⟨[U],[],[]⟩]⟩]
def Eu:List Con:=[{ref:=none,args:=[.agg [.own 188 25,.int .i64,.int .i64],.one (.kd),.one (.str),.one (.str)],facts:=[.add (.v 1) (.mul (-1) (.k (0))),.add (.add (.v 0) (.mul (-1) (.k (1)))) (.mul (-1) (.v 1)),.add (.k (65536)) (.mul (-1) (.v 0)),.add (.v 2) (.mul (-1) (.k (0))),.add (.k (1048576)) (.mul (-1) (.v 2)),.add (.v 2) (.mul (-1) (.m 0)),.add (.k (1000000)) (.mul (-1) (.v 5)),.add (.k (1)) (.mul (-1) (.m 3))],layer:=1,meas:=.k (0),posts:=[{res:=[.agg [.own 188 25,.int .i64,.int .i64],.one (.int .i64)],mem:=[],facts:=[.add (.v 9) (.mul (-1) (.k (0))),.add (.k (0)) (.mul (-1) (.v 9)),.add (.v 6) (.mul (-1) (.add (.v 0) (.k (1)))),.add (.add (.v 0) (.k (1))) (.mul (-1) (.v 6)),.add (.v 7) (.mul (-1) (.v 1)),.add (.v 1) (.mul (-1) (.v 7)),.add (.k (65536)) (.mul (-1) (.v 6)),.add (.v 8) (.mul (-1) (.k (0))),.add (.k (1048576)) (.mul (-1) (.v 8)),.add (.v 8) (.mul (-1) (.m 6))]},
 {res:=[.agg [.own 188 25,.int .i64,.int .i64],.one (.int .i64)],mem:=[],facts:=[.add (.v 9) (.mul (-1) (.k (1))),.add (.v 6) (.mul (-1) (.v 0)),.add (.v 0) (.mul (-1) (.v 6)),.add (.v 7) (.mul (-1) (.v 1)),.add (.v 1) (.mul (-1) (.v 7)),.add (.v 8) (.mul (-1) (.k (0))),.add (.k (1048576)) (.mul (-1) (.v 8)),.add (.v 8) (.mul (-1) (.m 6))]}]}]
def c174:List Con:=[⟨none,[S],[],1,0,[⟨[U],[],[]⟩]⟩]
def c175:List Con:=[⟨none,[S],[2000000-v0],1,0,[⟨[R,I],[],[v0-v1]⟩]⟩]
def c176:List Con:=[⟨none,[I],[],0,0,[⟨[U],[],[]⟩]⟩]
def c177:List Con:=[⟨none,[I],[],1,0,[⟨[U],[],[]⟩]⟩]
def c178:List Con:=[⟨none,[],[],0,0,[⟨[Z1],[],[v0-4,4-v0,60-m0]⟩]⟩]
def c179:List Con:=[⟨some (125,BX),[A BS],Cs,3,0,[⟨[Z1],Bx,[m5+24-12*Qk]⟩]⟩]
def c180:List Con:=[⟨none,[S],[3000000-v0],4,0,[⟨[S,I],[],[200-v1]⟩]⟩]
def c181:List Con:=[⟨some (125,BX),[A BS,B],Cs,66,0,[⟨[Z9,Z6],Bx,[m9-(FQ+Ql)]⟩]⟩]
def c182:List Con:=[⟨some (125,BX),[Z6],[100000000000-m3],65,m3+20,[⟨[Z7],Bx,[m3-m4,400000-v4]⟩]⟩]
def c183:List Con:=[⟨some (125,BX),[A BS],Cs,62,0,[⟨[A Gu],Bx,[m5+12-(12*Er+12*HJ)]⟩]⟩]
def c184:List Con:=[⟨some (125,BX),[A BS,I,S,B],Cs,65,m9+26,[⟨[A Fo],Bx,XX⟩]⟩]
def c185:List Con:=[⟨some (125,BX),[A BS,B],Cs,65,m9+22,[⟨[Z7],Bx,[m9-FQ,400000-CJ]⟩]⟩]
def c186:List Con:=[⟨none,[S],GJ,62,0,[⟨[Z2,I],[],[20100*v0+200-m1]⟩]⟩]
def c187:List Con:=[⟨none,[S],GJ,61,0,[⟨[A Cc,I,I],[],[Cj-0,0-Cj,20100*v0-(v2+v3+v6+v9+Er+HJ+Ek+Iu),Bz-(m1-1)]⟩,⟨[A Cc,I,I],[],[Cj-1,0-(v2+v3+v6+v9+Er+HJ+Ek+Iu),Bz-(m1-1)]⟩]⟩]
def c188:List Con:=[⟨none,[S],GJ,2,0,[⟨[Z1],[],[2*v0-m1,2*v0-v1]⟩]⟩]
def c221:List Con:=[{ref:=none,args:=[.one (.str)],facts:=[.add (.k (2000000)) (.mul (-1) (.v 0))],layer:=2,meas:=.k (0),posts:=[{res:=[.one (.boolu)],mem:=[],facts:=[]}]}]
def c222:List Con:=[⟨none,[S,S],[1000000-v0,1000000-v1],0,0,[⟨[U],[],[]⟩]⟩]
def c223:List Con:=[⟨none,[S],[],0,0,[⟨[U],[],[]⟩]⟩]
def c224:List Con:=[{ref:=none,args:=[.agg [.fz 25],.one (.int .i64)],facts:=[.add (.v 1) (.mul (-1) (.k (0))),.add (.add (.v 0) (.mul (-1) (.k (1)))) (.mul (-1) (.v 1)),.add (.k (65536)) (.mul (-1) (.v 0))],layer:=0,meas:=.k (0),posts:=[{res:=[.one (.int .i64)],mem:=[],facts:=[.add (.v 2) (.mul (-1) (.k (0)))]}]}]
def c225:List Con:=[⟨none,[Y],[],0,0,[⟨[U],[],[]⟩]⟩]
def c226:List Con:=[⟨none,[S,I],[2000000-v0,v1-0,v0-v1-1],0,0,[⟨[I,I],[],[v3-0,4-v3,v0-(v1+v3)]⟩]⟩]
def c227:List Con:=[⟨none,[I],[],0,0,[⟨[U],[],[]⟩]⟩]
def c228:List Con:=[⟨none,[S],[],3,0,[⟨[A [u,r],I],[],[v3-0,0-v3,50-v2]⟩,⟨[A [u,r],I],[],[v3-1,0-v2]⟩]⟩]
def c229:List Con:=[⟨none,[A [u,r]],[1000-v1],0,0,[⟨[S],[],[2*v1+60-v2]⟩]⟩]
def c230:List Con:=[⟨none,[Z6,S],[],0,0,[⟨[I],[],[v2-0,v0-v2]⟩]⟩]
def c231:List Con:=[⟨some (125,BX),[A BS,B],Cs,65,m9+27,[⟨[A [s,i,i,i,s,s,u,i,s,s,i,i,s,i,i,s,i,i,i,s,s,z1,z2,z7]],Bx,[m5+m9+1000-(m 34+CJ+LQ+m 33+Ds+m 32+Ce+v26+v 31+WW+Bz+Dm)]⟩]⟩]
def c232:List Con:=[⟨some (125,BX),[A BS],Cs,65,m9+40,[⟨[A Fo],Bx,Gb⟩]⟩]
def c233:List Con:=[⟨some (125,BX),[A BS,S],[100000000000-(m5+m9+250000*v4+250000*v6),1000000-Ep],63,0,[⟨[Z4],Bx,[20300*Ep-FQ]⟩]⟩]
def c234:List Con:=[⟨none,[S],GJ,61,0,[⟨[A Gu,I],[],[20100*v0-(v4+v5)]⟩]⟩]
def c235:List Con:=[⟨none,[A Cc],[30000000000-Ek,Dm-(m0-1)],2,Ek,[⟨[.one (.own 66 2),U],[],[v1+v2+v5+v8+DZ+Er+GS+Ek+21-Iu,1+Ek-Bz]⟩]⟩]
def c236:List Con:=[⟨none,[S],GJ,6,0,[⟨[Z3,I,I],[],[v3-0,0-v3,v0-v1,20100*v0-m1]⟩,⟨[Z3,I,I],[],[v3-1,v1-0,0-v1]⟩]⟩]
def c237:List Con:=[⟨none,[Z3],[],1,0,[⟨[T],[],[]⟩,⟨[N],[],[50000-v0]⟩]⟩]
def c238:List Con:=[⟨some (339,CO),[],BJ,45,60*v0-60*v1+32,[⟨[A Cc],Dw,[v0-Ce,Ce-v1-1,p 0 Ce-p 0 v1-(v4+v5+v8+CJ+Dm+Bz+FR+DX+2500),Cj-(m3-1)]⟩,⟨[A Cc],Da,Hk⟩]⟩,
⟨some (339,DL),[],BJ,44,1,[⟨[A Cc],Cu,KQ⟩]⟩]
def c239:List Con:=[⟨none,[A Cc],Mu,0,Ek,[⟨[I,I],[],[]⟩]⟩]
def c240:List Con:=[⟨none,[S],GJ,1,0,[⟨[S],[],[v0-v1]⟩]⟩]
def c255:List Con:=[⟨none,[Y],[],0,0,[⟨[U],[],[]⟩]⟩]
def c256:List Con:=[⟨none,[R],[],0,0,[⟨[R],[],[v0-v1]⟩]⟩]
def c257:List Con:=[⟨none,[R,I],[v1-0,1000-v1,1000-v0],0,0,[⟨[R],[],[v2-(v0+v1),v0+v1-v2]⟩]⟩]
def c258:List Con:=[⟨none,[B,R,I,S],[v2-0,1000-v2,1000-v1],2,0,[⟨[R],[],[v1+2-v4]⟩]⟩]
def c259:List Con:=[⟨none,[S],[],0,0,[⟨[U],[],[]⟩]⟩]
def c260:List Con:=[⟨some (125,BX),[A BS],Cs,65,m9+30,[⟨[A Fo],Bx,Gb⟩]⟩]
def c261:List Con:=[⟨some (125,BX),[A BS],Cs,64,m9+30,[⟨[A Fo],Bx,Gb⟩]⟩]
def c262:List Con:=[⟨some (125,BX),[A BS,I,I,Z1],[CJ-0,DZ-CJ,100-DZ,100000000000-(m5+m9+250000*v4+250000*v6)],65,m9+30,[⟨[A Fo],Bx,XX⟩]⟩]
def c263:List Con:=[⟨some (125,BX),[A BS],Cs,65,m9+30,[⟨[A Fo],Bx,Gb⟩]⟩]
def c264:List Con:=[⟨some (125,BX),[A BS,I],Cs,65,m9+30,[⟨[A Fo],Bx,[100000*v4+m5+m9+2000-(v 38+m 48+v 35+m 47+v 34+v 41+v 46+v 45+m 57+m 59+m 58+Er+DZ+GS+JB+m 32+Ce+m 31+Cj+v25+WW+QT+Ek+m 54+m 56+v 53+v 52+m 55)]⟩]⟩]
def c265:List Con:=[⟨some (125,BX),[A BS],Cs,65,m9+30,[⟨[A Fo],Bx,Gb⟩]⟩]
def c266:List Con:=[⟨some (125,BX),[A BS],Cs,65,m9+30,[⟨[A Fo],Bx,Gb⟩]⟩]
def c267:List Con:=[⟨some (125,BX),[A BS],Cs,65,m9+30,[⟨[A Fo],Bx,Gb⟩]⟩]
def c268:List Con:=[⟨some (125,BX),[A BS],Cs,65,m9+30,[⟨[A Fo],Bx,Gb⟩]⟩]
def c269:List Con:=[⟨some (125,BX),[A BS],Cs,65,m9+30,[⟨[A Fo],Bx,Gb⟩]⟩]
def c270:List Con:=[⟨some (125,BX),[A BS],Cs,65,m9+30,[⟨[A Fo],Bx,Gb⟩]⟩]
def c271:List Con:=[⟨some (125,BX),[A BS],Cs,65,m9+30,[⟨[A Fo],Bx,Gb⟩]⟩]
def c272:List Con:=[⟨some (125,BX),[A BS],Cs,65,m9+30,[⟨[A Fo],Bx,Gb⟩]⟩]
def c273:List Con:=[⟨none,[S],GJ,62,0,[⟨[Z4,I],[],[20300*v0-m1]⟩]⟩]
def c274:List Con:=[⟨some (339,CO),[],BJ,45,1,[⟨[A Gu],Dw,[v0-v8,v8-v1-1,p 0 v8-p 0 v1-(v6+v7+8000)]⟩,⟨[A Gu],Da,[v8-v1,v0-v8]⟩]⟩,
⟨some (339,DL),[],BJ,45,1,[⟨[A Gu],Cu,[]⟩]⟩]
def c275:List Con:=[⟨none,[A Cc],Mu,1,Ek,[⟨[U],[],[]⟩]⟩]
def c276:List Con:=[⟨none,[S,I,S],[1000000-v0,100-v2,v1-0,v0+1-v1],0,0,[⟨[T],[],[v0-(v1+v2)]⟩,⟨[N],[],[]⟩]⟩]
def c277:List Con:=[⟨none,[S,I],[1000000-v0,v1-0,v0-(v1+2)],1,v0-v1,[⟨[I],[],ON⟩,⟨[I],[],[v2-(v1+2),v0-v2]⟩]⟩]
def c278:List Con:=[⟨none,[S,I],JO,5,0,[⟨[A [i,s,i],I,I],[],[v6-0,0-v6,v5-v1-1,v0-v5,20100*v5-20100*v1-(10021+10000*v3)]⟩,⟨[A [i,s,i],I,I],[],[v6-1,v3-0,0-v3]⟩]⟩]
def c279:List Con:=[⟨none,[S],GJ,3,0,[⟨[T],[],[v0-1]⟩,⟨[N],[],[]⟩]⟩]
def c280:List Con:=[⟨none,[S,I],RY,0,0,[⟨[S],[],[v2-0,0-v2,v1-v0]⟩,⟨[S],[],[v2-1,v0-(v1+v2)]⟩]⟩]
def c281:List Con:=[⟨none,[Z0,S],[],0,0,[⟨[I],[],ON⟩,⟨[I],[],[v2-0,v0-v2-1,v1-1]⟩]⟩,
⟨none,[Z1,S],[],0,0,[⟨[I],[],ON⟩,⟨[I],[],[v2-0,v0-v2-1]⟩]⟩]
def c282:List Con:=[⟨some (339,CO),[],BJ,45,60*v0-60*v1+31,[⟨[A Cc],Dw,[v0-Ce,Ce-v1-1,p 0 Ce-p 0 v1-(v4+v5+v8+CJ+Dm+Bz+FR+DX+3000),Cj-(m3-1)]⟩,⟨[A Cc],Da,Hk⟩]⟩,
⟨some (339,DL),[],BJ,44,0,[⟨[A Cc],Cu,KQ⟩]⟩]
def c283:List Con:=[⟨some (339,CO),[.one sk],BJ,41,0,[⟨[T],Cu,[v0-v1-1,p 0 (v1+1)-p 0 v1-20000,p 0 (18446744073709551616+v1)-1,1-p 0 (18446744073709551616+v1)]⟩,⟨[N],Cu,XO⟩]⟩,
⟨some (339,CO),[S],BJ,41,0,[⟨[T],Cu,XJ⟩,⟨[N],Cu,[]⟩]⟩,
⟨some (339,DL),[S],BJ,41,0,[⟨[N],Cu,[]⟩]⟩]
def c284:List Con:=[⟨some (339,CO),[.one sk],BJ,42,0,[⟨[T],Dw,[v0-v5,v5-(v1+1),v1+1-v5,p 0 v5-p 0 v1-20000]⟩,⟨[N],Cu,XO⟩]⟩,
⟨some (339,CO),[S],BJ,42,0,[⟨[T],Dw,[v0-v5,v5-(v1+1),v1+1-v5,p 0 v5-p 0 v1-(10000+10000*v3)]⟩,⟨[N],Cu,[]⟩]⟩,
⟨some (339,DL),[S],BJ,42,0,[⟨[N],Cu,[]⟩]⟩]
def c285:List Con:=[⟨none,[.one kd,Z2],[v1-(m0-1)],0,0,[⟨[A Cc],[],[0-(v3+v4+v7+Ep+HJ+Dm+Iu),m1-FR,Fs-v1,v1-Fs,m2-m0,m0-m2,Fs-(m2-1)]⟩]⟩]
def c287:List Con:=[⟨none,[R,R],[],1,0,[⟨[I],[],[]⟩]⟩]
def c288:List Con:=[⟨none,[B,I,I,B,S],[],0,0,[⟨[U],[],[]⟩]⟩]
def c289:List Con:=[⟨none,[R,R],[100000-v0,100000-v1],1,0,[⟨[R],[],[v0+v1+1-v2]⟩]⟩]
def c290:List Con:=[⟨some (125,BX),[A BS,S],Cs,64,0,[⟨[Z4],Bx,[m5-12*FQ]⟩]⟩]
def c291:List Con:=[⟨some (125,BX),[A BS,B],Cs,65,m9+28,[⟨[Z8,Z9],Bx,[m9-(FQ+Ql)]⟩]⟩]
def c292:List Con:=[⟨some (125,BX),[A BS],Cs,64,0,[⟨[Z8,Z6],Bx,[m9-(Qk+FQ)]⟩]⟩]
def c293:List Con:=[⟨some (125,BX),[A BS],Cs,64,0,[⟨[A [i,s,s,i,i,s,i,i,s,i,i,i,s,s,z1,z2,z8]],Bx,[m5+m9+1000-(Qn+Dm+Qm+DZ+m24+CJ+Cj+LQ+JB)]⟩]⟩]
def c294:List Con:=[⟨some (125,BX),[A BS],Cs,65,m9+21,[⟨[Z7],Bx,[m9-Qk]⟩]⟩]
def c295:List Con:=[⟨some (125,BX),[A BS],Cs,3,0,[⟨[R],Bx,[m5-12*Ep]⟩]⟩]
def c296:List Con:=[⟨none,[S,I,S],[1000000-v0,100-v2,v1-0,v0-v1],0,0,[⟨[T],[],[v0-(v1+v2)]⟩,⟨[N],[],[]⟩]⟩]
def c297:List Con:=[⟨none,[S,I],RY,2,0,[⟨[I],[],ON⟩,⟨[I],[],[v2-v1,v0-v2-1]⟩]⟩]
def c298:List Con:=[⟨some (339,CO),[],BJ,45,0,[⟨[A Gu],Dw,[v0-v8,v8-v1-1,p 0 v8-p 0 v1-(v6+v7+9000)]⟩,⟨[A Gu],Da,[v8-v1,v0-v8]⟩]⟩,
⟨some (339,DL),[],BJ,45,0,[⟨[A Gu],Cu,[]⟩]⟩]
def c299:List Con:=[⟨none,[A Cc],Mu,0,0,[⟨[U],[],[]⟩]⟩]
def c300:List Con:=[⟨none,[A Cc],Mu,0,0,[⟨[U],[],[]⟩]⟩]
def c301:List Con:=[⟨none,[S,I],JO,0,0,[⟨[S,I],[],[v3-(v1+2),v0-v3,v3-v1-(v2+1)]⟩,⟨[S,I],[],[v3-k (-1),k (-1)-v3]⟩]⟩]
def c302:List Con:=[⟨none,[S,I],JO,2,0,[⟨[I],[],[v2-v1,v0-v2]⟩]⟩]
def c303:List Con:=[⟨none,[S,I],JO,4,0,[⟨[I,I],[],[v2-v1,v0-v2,v3-0,v2-v1-v3]⟩]⟩]
def c304:List Con:=[⟨none,[S,I],JO,1,0,[⟨[S],[],[v2-0,0-v2]⟩,⟨[S],[],[v2-1,v0-(v1+v2)]⟩]⟩]
def c305:List Con:=[{ref:=some (339,[.fz 3,.int .i64,.boolc false]),args:=[.one (.int .i64),.one (.int .i64),.one (.sk)],facts:=[.add (.v 1) (.mul (-1) (.k (0))),.add (.v 0) (.mul (-1) (.v 1)),.add (.k (1000000000)) (.mul (-1) (.v 0)),.add (.k (30000000000)) (.mul (-1) (.m 0)),.add (.v 3) (.mul (-1) (.k (0))),.add (.k (0)) (.mul (-1) (.v 3)),.add (.v 4) (.mul (-1) (.k (3))),.add (.k (3)) (.mul (-1) (.v 4))],layer:=40,meas:=.k (0),posts:=[{res:=[.one (.boolc true)],mem:=[none,none,none],facts:=[.add (.add (.v 0) (.mul (-1) (.v 1))) (.mul (-1) (.k (1))),.add (.add (.p 0 (.add (.v 1) (.k (1)))) (.mul (-1) (.p 0 (.v 1)))) (.mul (-1) (.k (20000))),.add (.p 0 (.add (.k (18446744073709551616)) (.v 1))) (.mul (-1) (.k (1))),.add (.k (1)) (.mul (-1) (.p 0 (.add (.k (18446744073709551616)) (.v 1))))]},
 {res:=[.one (.boolc false)],mem:=[none,none,none],facts:=[.add (.p 0 (.add (.k (18446744073709551616)) (.v 1))) (.mul (-1) (.k (0))),.add (.k (0)) (.mul (-1) (.p 0 (.add (.k (18446744073709551616)) (.v 1))))]}]},
 {ref:=some (339,[.fz 3,.int .i64,.boolc false]),args:=[.one (.int .i64),.one (.int .i64),.one (.str)],facts:=[.add (.v 1) (.mul (-1) (.k (0))),.add (.v 0) (.mul (-1) (.v 1)),.add (.k (1000000000)) (.mul (-1) (.v 0)),.add (.k (30000000000)) (.mul (-1) (.m 0)),.add (.v 3) (.mul (-1) (.k (0))),.add (.k (10)) (.mul (-1) (.v 3))],layer:=40,meas:=.k (0),posts:=[{res:=[.one (.boolc true)],mem:=[none,none,none],facts:=[.add (.add (.v 0) (.mul (-1) (.add (.v 1) (.v 3)))) (.mul (-1) (.k (1))),.add (.add (.p 0 (.add (.add (.v 1) (.v 3)) (.k (1)))) (.mul (-1) (.p 0 (.add (.v 1) (.v 3))))) (.mul (-1) (.add (.k (10000)) (.mul (10000) (.v 5))))]},
  {res:=[.one (.boolc false)],mem:=[none,none,none],facts:=[]}]},
 {ref:=some (339,[.fz 3,.int .i64,.boolc true]),args:=[.one (.int .i64),.one (.int .i64),.one (.str)],facts:=[.add (.v 1) (.mul (-1) (.k (0))),.add (.v 0) (.mul (-1) (.v 1)),.add (.k (1000000000)) (.mul (-1) (.v 0)),.add (.k (30000000000)) (.mul (-1) (.m 0)),.add (.v 3) (.mul (-1) (.k (0))),.add (.k (10)) (.mul (-1) (.v 3))],layer:=40,meas:=.k (0),posts:=[{res:=[.one (.boolc false)],mem:=[none,none,none],facts:=[]}]}]
def c306:List Con:=[⟨some (339,CO),[S],BJ,41,0,[⟨[T],Cu,XJ⟩,⟨[N],Cu,[]⟩]⟩,
⟨some (339,DL),[S],BJ,41,0,[⟨[N],Cu,[]⟩]⟩]
def c307:List Con:=[⟨some (339,CO),[.one kd,S,S],[v1-0,v0-v1,1000000000-v0,30000000000-m0,3-m3,p 0 (v1+1)-p 0 v1-10000,v0-v1-1],45,60*v0-60*v1+30,[⟨[A Cc],Dw,[v0-JB,JB-v1-1,p 0 JB-p 0 v1-(v7+v8+CJ+HJ+Cj+Ce+m20+m21+3000),I9-(m6-1)]⟩,⟨[A Cc],Da,[JB-v1,v0-JB,I9-(m6-1)]⟩]⟩]
def c308:List Con:=[⟨some (339,CO),[S],BJ,43,0,[⟨[],Dw,XM⟩,⟨[],[o,o,jt],[]⟩]⟩,
⟨some (339,DL),[S],BJ,43,0,[⟨[],Cu,[]⟩]⟩]
def c309:List Con:=[⟨some (339,CO),[I],[v1-0,v0-v1,1000000000-v0,30000000000-m0,v3-2,11-v3],45,60*v0-60*v1+30-v3,[⟨[A Cc],Dw,[v0-Ds,Ds-v1-1,p 0 Ds-p 0 v1-(v5+v6+v9+DZ+Bz+Fs+DX+Lv+3000+200*v3),Ce-(m4-1)]⟩,⟨[A Cc],Da,[Ds-v1,v0-Ds,Ce-(m4-1)]⟩]⟩]
def c310:List Con:=[⟨none,[R,I],[v1-0],0,0,[⟨[I],[],[]⟩]⟩]
def c311:List Con:=[⟨some (125,BX),[A BS,I],[Ep-0,4-Ep,100000000000-(m5+m9+250000*v4+250000*v6)],63,0,[⟨[A [i,s,s,i,i,s,i,i,s,i,i,i,s,s,z1,z2,u,u,s]],Bx,[m5+1000-(QT+Bz+Qn+Er+Qm+DZ+Ce+K4+LQ)]⟩]⟩]
def c312:List Con:=[⟨none,[S,I],JO,0,0,[⟨[I],[],[v2-(v1+1),v0-v2]⟩]⟩]
def c313:List Con:=[⟨none,[S,I],JO,1,0,[⟨[I],[],[v2-(v1+1),v0-v2]⟩]⟩]
def c314:List Con:=[⟨some (339,CO),[I],BJ,40,0,[⟨[S,T],Cu,XL⟩,⟨[S,N],Cu,[v4-0,0-v4]⟩]⟩,
⟨some (339,DL),[I],BJ,40,0,[⟨[S,N],Cu,[v4-0,0-v4]⟩]⟩]
def c315:List Con:=[⟨none,[],[],0,0,[⟨[Z0],[],[v0-7,7-v0]⟩]⟩]
def c316:List Con:=[⟨some (339,[z3,i,b]),[],[],40,0,[⟨[],[o,o,jt],[]⟩]⟩]
def c317:List Con:=[⟨some (339,CO),[],BJ,44,0,[⟨[A [i,s]],Dw,[v0-v5,v5-v1-1,p 0 v5-p 0 v1-(v4+9000)]⟩,⟨[A [i,s]],Da,[v5-v1,v0-v5]⟩]⟩,
⟨some (339,DL),[],BJ,44,0,[⟨[A [i,s]],Cu,[]⟩]⟩]
def c318:List Con:=[⟨some (339,CO),[],BJ,44,0,[⟨[A Gu],Dw,[v0-v8,v8-v1-1,p 0 v8-p 0 v1-(v6+9000),v7-0,0-v7]⟩,⟨[A Gu],Dw,[v0-v8,v8-(v1+1)-1,v7-1,1-v7,p 0 (v8-1)-p 0 v1-(v6+9000),p 0 v8-p 0 v1-(9000+v6+v7)]⟩,⟨[A Gu],Da,[v8-v1,v0-v8,v7-0,0-v7]⟩]⟩,
⟨some (339,DL),[],BJ,44,0,[⟨[A Gu],Cu,[v7-0,0-v7]⟩]⟩]
def c319:List Con:=[⟨none,[S,I],RY,1,0,[⟨[I],[],[v2-v1,v0-v2]⟩]⟩]
def c320:List Con:=[⟨none,[S,I],[1000000-v0,v1-0],0,0,[⟨[T],[],[v0-v1-1]⟩,⟨[N],[],[]⟩]⟩]
def c321:List Con:=[⟨none,[S],GJ,3,0,[⟨[T],[],[v0-1]⟩,⟨[N],[],[]⟩]⟩]
def c322:List Con:=[⟨some (339,CO),[],BJ,43,0,[⟨[S],Dw,XM⟩,⟨[S],[o,o,jt],[v3-0,0-v3]⟩]⟩,
⟨some (339,DL),[],BJ,43,0,[⟨[S],Cu,[v3-0,0-v3]⟩]⟩]
def c323:List Con:=[⟨some (339,CO),[],BJ,45,60*v0-60*v1+18,[⟨[A Cc],Dw,[v0-Ce,Ce-v1-1,p 0 Ce-p 0 v1-(v4+v5+v8+CJ+Dm+Bz+FR+DX+5600),Cj-(m3-1)]⟩,⟨[A Cc],Da,Hk⟩]⟩]
def c324:List Con:=[⟨some (339,CO),[I],BJ,42,0,[⟨[S],Cu,[v4-0,0-v4]⟩,⟨[S],Cu,XL⟩]⟩,
⟨some (339,DL),[I],BJ,42,0,[⟨[S],Cu,[v4-0,0-v4]⟩]⟩]
def c325:List Con:=[⟨none,[],[],0,0,[⟨[Z0],[],[v0-11,11-v0]⟩]⟩]
def c326:List Con:=[⟨some (339,CO),[],BJ,45,60*v0-60*v1+17,[⟨[A Cc],Dw,[v0-Ce,Ce-v1-1,p 0 Ce-p 0 v1-(v4+v5+v8+CJ+Dm+Bz+FR+DX+6000),Cj-(m3-1)]⟩,⟨[A Cc],Da,Hk⟩]⟩]
def c327:List Con:=[⟨none,[S],[],41,0,[⟨[I],[],[v1-0,20-v1]⟩]⟩]
def c328:List Con:=[⟨some (339,CO),[],BJ,45,60*v0-60*v1+16,[⟨[A Cc],Dw,[v0-Ce,Ce-v1-1,p 0 Ce-p 0 v1-(v4+v5+v8+CJ+Dm+Bz+FR+DX+6400),Cj-(m3-1)]⟩,⟨[A Cc],Da,Hk⟩]⟩]
def c329:List Con:=[⟨none,[S],[],41,0,[⟨[B],[],[]⟩]⟩]
def c330:List Con:=[⟨some (339,CO),[S],BJ,45,60*v0-60*v1+33,[⟨[Z2],Dw,[v0-v5,v5-v1,v5-v1-v4,p 0 v5-p 0 v1-m4]⟩,⟨[Z2],Da,[v5-v1,v0-v5,v0+2-v4]⟩]⟩,
⟨some (339,DL),[S],BJ,44,0,[⟨[Z2],Cu,[v4-0,0-v4]⟩]⟩]
def c331:List Con:=[⟨some (339,CO),[],BJ,45,60*v0-60*v1+15,[⟨[A Cc],Dw,[v0-Ce,Ce-v1-1,p 0 Ce-p 0 v1-(v4+v5+v8+CJ+Dm+Bz+FR+DX+6800),Cj-(m3-1)]⟩,⟨[A Cc],Da,Hk⟩]⟩]
def c332:List Con:=[⟨none,[],[],0,0,[⟨[A Cc],[],[0-(v1+v2+v5+v8+DZ+Er+GS),0-Ek,Dm-(m0-1)]⟩]⟩]
def c333:List Con:=[⟨some (339,CO),[],BJ,45,60*v0-60*v1+14,[⟨[A Cc],Dw,[v0-Ce,Ce-v1-1,p 0 Ce-p 0 v1-(v4+v5+v8+CJ+Dm+Bz+FR+DX+7200),Cj-(m3-1)]⟩,⟨[A Cc],Da,Hk⟩]⟩,
⟨some (339,DL),[],BJ,44,14,[⟨[A Cc],Cu,KQ⟩]⟩]
def c334:List Con:=[⟨some (339,CO),[],BJ,41,0,[⟨[B],Cu,[]⟩]⟩,
⟨some (339,DL),[],BJ,41,0,[⟨[N],Cu,[]⟩]⟩]
def c335:List Con:=[⟨some (339,CO),[S],BJ,43,0,[⟨[B],Cu,[]⟩]⟩,
⟨some (339,DL),[S],BJ,43,0,[⟨[B],Cu,[]⟩]⟩]
def c336:List Con:=[⟨none,[],[],0,0,[⟨[Z0],[],[v0-12,12-v0]⟩]⟩]
def c337:List Con:=[⟨some (339,CO),[],BJ,45,60*v0-60*v1+13,[⟨[A Cc],Dw,[v0-Ce,Ce-v1-1,p 0 Ce-p 0 v1-(v4+v5+v8+CJ+Dm+Bz+FR+DX+7600),Cj-(m3-1)]⟩,⟨[A Cc],Da,Hk⟩]⟩,
⟨some (339,DL),[],BJ,44,13,[⟨[A Cc],Cu,KQ⟩]⟩]
def c338:List Con:=[⟨some (339,CO),[],BJ,45,60*v0-60*v1+10,[⟨[Z2],Dw,[v0-v4,v4-v1,v4-v1-v3,p 0 v4-p 0 v1-(m3+10000),v4-v1-1]⟩,⟨[Z2],Dw,[v4-v1,v1-v4,v3-0,0-v3,m3-0,0-m3,p 0 (18446744073709551616+v1)-0,0-p 0 (18446744073709551616+v1)]⟩,⟨[Z2],Da,[v4-v1,v0-v4,v0+2-v3]⟩]⟩,
⟨some (339,DL),[],BJ,44,10,[⟨[Z2],Cu,[v3-0,0-v3]⟩]⟩]
def c339:List Con:=[⟨some (339,CO),[],BJ,45,60*v0-60*v1+12,[⟨[A Cc],Dw,XR⟩,⟨[A Cc],Da,Hk⟩]⟩,
⟨some (339,DL),[],BJ,44,0,[⟨[A Cc],Cu,KQ⟩]⟩]
def c340:List Con:=[⟨some (339,CO),[A Cc],[v1-0,v0-v1,1000000000-v0,30000000000-m0,Cj-(m3-1)],45,60*v0-60*v1+10,[⟨[A Cc],Dw,[v0-v 35,v 35-v1-1,p 0 (v 35)-p 0 v1+(v4+v5+v8+CJ+Dm+Bz+FR+DX)-(Ds+I9+K4+WV+v 31+v 32+m 33+m 34+8000),v 34-(Lv-1)]⟩,⟨[A Cc],Da,[v 35-v1,v0-v 35,v 34-(Lv-1)]⟩]⟩]
def c341:List Con:=[⟨none,[S],[3000000-v0],7,0,[⟨[A [i,s],U],[],[200-v2]⟩,⟨[A [i,s],U],[],[v0-1,11000-v2]⟩]⟩]
def c342:List Con:=[⟨some (339,CO),[],BJ,45,60*v0-60*v1+11,[⟨[A Cc],Dw,XR⟩,⟨[A Cc],Da,Hk⟩]⟩,
⟨some (339,DL),[],BJ,44,11,[⟨[A Cc],Cu,KQ⟩]⟩]
def c343:List Con:=[⟨some (339,CO),[],BJ,43,0,[⟨[S,U],Cu,[200-v3,v0-v1-1,p 0 (v1+1)-p 0 v1-10000]⟩,⟨[S,N],Cu,[v3-0,0-v3]⟩]⟩,
⟨some (339,DL),[],BJ,43,0,[⟨[S,N],Cu,[v3-0,0-v3]⟩]⟩]
def c344:List Con:=[⟨none,[S],[3000000-v0],5,0,[⟨[F,U],[],[]⟩]⟩]
def c345:List Con:=[⟨none,[F],[9223372036854775807-v0],6,v0,[⟨[S],[],[1700-v1]⟩]⟩,
⟨none,[F],[],6,v0,[⟨[S],[],[1701-v1]⟩]⟩]
def c346:List Con:=[⟨none,[S],[],0,0,[⟨[S],[],[v0-v1]⟩]⟩]
def c347:List Con:=[⟨none,[],[],0,0,[⟨[F],[],[]⟩]⟩]
def c348:List Con:=[⟨none,[I],[],0,0,[⟨[F],[],[]⟩]⟩]
def c349:List Con:=[⟨none,[S],[],0,0,[⟨[I],[],[v1-0,v0-v1]⟩]⟩]
def c350:List Con:=[⟨none,[S],[],1,0,[⟨[I,U],[],[v1-k (-1000000),1000000-v1]⟩]⟩]
def c351:List Con:=[⟨none,[W,B],[],0,0,[⟨[F],[],[]⟩]⟩]
def c352:List Con:=[⟨none,[A [s,i]],[3100000-v0,v1-k (-4000000),1100000-v1],4,0,[⟨[W],[],[]⟩]⟩]
def c355:List Con:=[⟨none,[F],[v0-1,9223372036854775807-v0],5,0,[⟨[A [s,i]],[],[v1-1,801-v1,v2-k (-1074),800-v2]⟩]⟩]
def c356:List Con:=[⟨none,[A [s,i]],[801-v0,v1-k (-1074),800-v1],1,0,[⟨[S],[],[1700-v2]⟩]⟩]
def c357:List Con:=[⟨none,[I],[],2,0,[⟨[S],[],[30-v1]⟩]⟩]
def c358:List Con:=[⟨none,[S],[],0,0,[⟨[S],[],[v0-v1]⟩]⟩]
def c359:List Con:=[⟨none,[W],[9223372036854775807-v0],0,0,[⟨[I,I],[],[v1-0,v2-k (-1075),3020-v2]⟩]⟩]
def c360:List Con:=[⟨none,[I,I,A [s,i]],[v1-k (-1080),3100-v1,3100000-v2,v3-k (-4000000),1100000-v3],3,0,[⟨[I],[],[]⟩]⟩]
def c361:List Con:=[{ref:=none,args:=[.one (.flt)],facts:=[.add (.v 0) (.mul (-1) (.k (1))),.add (.k (9223372036854775807)) (.mul (-1) (.v 0))],layer:=3,meas:=.k (0),posts:=[{res:=[.agg [.str,.int .i64]],mem:=[],facts:=[.add (.v 1) (.mul (-1) (.k (1))),.add (.k (800)) (.mul (-1) (.v 1)),.add (.v 2) (.mul (-1) (.k (-1074))),.add (.k (0)) (.mul (-1) (.v 2))]}]}]
def c362:List Con:=[⟨none,[S],GJ,0,0,[⟨[S],[],[v1-v0,v0+1-v1]⟩]⟩]
def c363:List Con:=[⟨none,[A [s,i],W],[9223372036854775807-v2,3100000-v0,v1-k (-4000000),1100000-v1],4,0,[⟨[B],[],[]⟩]⟩]
def c364:List Con:=[⟨none,[A [s,i],A [s,i],A [s,i]],[v0-1,801-v0,v1-k (-1074),800-v1,801-v2,v3-k (-1074),800-v3,801-v4,v5-k (-1074),800-v5],3,0,[⟨[B],[],[]⟩]⟩]
def c365:List Con:=[⟨none,[I],GJ,0,0,[⟨[S],[],[v1-v0,v0-v1,v0-0]⟩,⟨[S],[],[v1-0,0-v1,0-v0]⟩]⟩]
def c366:List Con:=[{ref:=none,args:=[.one (.int .i64)],facts:=[],layer:=1,meas:=.k (0),posts:=[{res:=[.one (.str)],mem:=[],facts:=[.add (.k (20)) (.mul (-1) (.v 1))]}]}]
def c367:List Con:=[⟨none,[S],[3100000-v0],1,0,[⟨[R],[],[3*v0-v1]⟩]⟩]
def c368:List Con:=[⟨none,[R,I],[20000000-v0,v1-0,4000-v1],2,0,[⟨[R],[],[v0+v1+100-v2]⟩]⟩]
def c369:List Con:=[⟨none,[R,I],[20000000-v0,v1-0,4000000-v1],2,0,[⟨[R],[],[v0+v1+100-v2]⟩]⟩]
def c370:List Con:=[⟨none,[R,R],[],0,0,[⟨[I],[],[]⟩]⟩]
def c372:List Con:=[⟨none,[R,I,I],[30000000-v0,v2-0,10000000-v2],1,0,[⟨[R],[],[v0+3*v2-v3]⟩]⟩]
def c373:List Con:=[⟨none,[R,I,I],[100000000-v0],0,0,[⟨[R],[],[v0+3-v3]⟩]⟩]
def c374:List Con:=[⟨none,[R,R],[10000000-v0,10000000-v1],0,0,[⟨[R],[],[v0+v1+3-v2]⟩]⟩]
def JS:List (Nat×List Con):=[(24,c24),(25,c25),(46,c46),(47,Gg),(48,c48),(49,c49),(50,c50),(51,c51),(52,c52),(98,c98),(99,c99),(100,c100),(101,c101),(102,c102),(103,c103),(104,c104),(105,c105),(106,c106),(107,c107),(108,c108),(109,c109),(110,c110),(111,c111),(112,c112),(113,c113),(114,c114),(170,c170),(171,If),(172,c172),(173,Eu),(174,c174),(175,c175),(176,c176),(177,c177),(178,c178),(179,c179),(180,c180),(181,c181),(182,c182),(183,c183),(184,c184),(185,c185),(186,c186),(187,c187),(188,c188),(221,c221),(222,c222),(223,c223),(224,c224),(225,c225),(226,c226),(227,c227),(228,c228),(229,c229),(230,c230),(231,c231),(232,c232),(233,c233),(234,c234),(235,c235),(236,c236),(237,c237),(238,c238),(239,c239),(240,c240),(255,c255),(256,c256),(257,c257),(258,c258),(259,c259),(260,c260),(261,c261),(262,c262),(263,c263),(264,c264),(265,c265),(266,c266),(267,c267),(268,c268),(269,c269),(270,c270),(271,c271),(272,c272),(273,c273),(274,c274),(275,c275),(276,c276),(277,c277),(278,c278),(279,c279),(280,c280),(281,c281),(282,c282),(283,c283),(284,c284),(285,c285),(287,c287),(288,c288),(289,c289),(290,c290),(291,c291),(292,c292),(293,c293),(294,c294),(295,c295),(296,c296),(297,c297),(298,c298),(299,c299),(300,c300),(301,c301),(302,c302),(303,c303),(304,c304),(305,c305),(306,c306),(307,c307),(308,c308),(309,c309),(310,c310),(311,c311),(312,c312),(313,c313),(314,c314),(315,c315),(316,c316),(317,c317),(318,c318),(319,c319),(320,c320),(321,c321),(322,c322),(323,c323),(324,c324),(325,c325),(326,c326),(327,c327),(328,c328),(329,c329),(330,c330),(331,c331),(332,c332),(333,c333),(334,c334),(335,c335),(336,c336),(337,c337),(338,c338),(339,c339),(340,c340),(341,c341),(342,c342),(343,c343),(344,c344),(345,c345),(346,c346),(347,c347),(348,c348),(349,c349),(350,c350),(351,c351),(352,c352),(355,c355),(356,c356),(357,c357),(358,c358),(359,c359),(360,c360),(361,c361),(362,c362),(363,c363),(364,c364),(365,c365),(366,c366),(367,c367),(368,c368),(369,c369),(370,c370),(372,c372),(373,c373),(374,c374)]
def con(f:Nat):List Con:=(Ck.get JS f).getD []
def Aol:List HH:=[(3,[⟨[(3,I),(10,I)],[],[9,8],[],[v1-0,v2-v1,v0-0,10000000-v0,24600*v1-v0,20750051*v1+250000*v0-p 3 v1],v2-v1,[]⟩]),
(9,[⟨[(3,I),(42,I)],[],[10,8,40,41],[],[v1-0,v5-v1,v0-0,10000000-v0,24600*v2+600+600*v1-v0,20750051*v2+250000*v0+750011+500001*v1-(p 3 (v2+1)-m4+p 4 v1)],v5-v1,[]⟩])]
def Aon:List HH:=[(3,[⟨[(3,I),(10,I)],[],[9,8],[],Mv,v2-v1,[]⟩]),
(9,[⟨[(3,I),(42,I)],[],[41],[],Mv,v2-v1,[]⟩])]
def Aqb:List HH:=[(3,[⟨[(5,I)],[(4,[some (.own 188 25),ji,ji])],[0],[],[v0-0,v4-v0,v2-0,v1-1-v2,65536-v1,v3-0,1048576-v3,v3-m1],v4-v0,[]⟩])]
def Aqc:List HH:=[(3,[⟨[(3,.one (.own 122 6)),(4,I)],[],[0],[],[v1-0,v2-v1,p 2 v1-250000*v1,100000000000-m2,v1-v0,p 2 v1-m0],v2-v1,[]⟩])]
def Aqd:List HH:=[(2,[⟨[(8,I)],HE,[],[(5,2)],[v0-0,v4-v0],v4-v0,[]⟩]),
(7,[⟨[(9,I)],HE,[2,3],[],[v0-0,v4-v0],v4-v0,[]⟩])]
def Aqe:List HH:=[(4,[⟨[(9,I)],[(7,[o,some (.own 48 15),some (.own 74 16),some (.own 140 17),some (.own 144 18),some (.own 76 19),some (.own 151 20),some (.own 84 21),some (.own 157 22),some (.own 162 23)]),(0,Bx)],[8],[],[v0-0,Er-v0,p 13 v0-250000*v0,100000000000-VB,p 13 v0-(m1+m2+m3+m4+m5+m6+m7+m8+m9),v0-(v1+v2+v3+v4+v5+v6+v7+v8+v9)],Er-v0,[]⟩])]
def Aqf:List HH:=[(2,[MZ])]
def Aqg:List HH:=[(2,[⟨[(6,I)],[],[],[(2,2)],Mw,v1-v0,[]⟩])]
def Aqh:List HH:=[(7,[⟨[(5,I),(6,B),(7,I)],[],[3],[],[v2-0,v3-v2],v3-v2,[]⟩])]
def Aqi:List HH:=[(7,[⟨[(8,I)],[(5,[o,o,o,o,o,o,o,ji,js,js,ji,ji,js,ji,ji,js,ji,ji,ji,js,js,Jr,Js,o,o,o,o]),(0,Bx)],[7],[],[v0-0,Ds-v0,p 20 v0-(v6+Iu+v3+Ek+v2+v9+HJ+Er)],Ds-v0,[]⟩])]
def Aqj:List HH:=[(6,[⟨[(7,I)],[(5,[o,o,o,o,o,o,o,o,o,o,o,o,o,o,o,o,o,some (.own 182 12)]),(0,Bx)],[6],[],Se,v5-v0,[]⟩])]
def Aqk:List HH:=[(6,[⟨[(10,I)],HE,[9],[],[v0-0,v4-v0],v4-v0,[]⟩])]
def Aql:List HH:=[(5,[⟨[(7,I)],[(5,[o,some (.own 170 13)]),(0,Bx)],[6],[],Se,v5-v0,[]⟩])]
def Aqm:List HH:=[(5,[⟨[(7,I)],[(5,[o,some (.pt 14),o,o]),(0,Bx)],[6],[],[v0-0,v5-v0,p 5 v0-m1],v5-v0,[]⟩])]
def An4:List HH:=[(4,[⟨[(6,I)],[(2,Tk)],[],[(3,3)],RZ,v2-v0,[]⟩]),
(9,[⟨[(7,I)],[(2,Tk)],[],[(3,3)],RZ,v2-v0,[]⟩]),
(12,[⟨[(8,I)],[(2,Tk)],[7],[],RZ,v2-v0,[]⟩]),
(21,[⟨[(9,I),(10,I)],[(2,[some (.own 188 25),ji,ji])],[],[(3,3)],[v1-0,v5-v1,v3-0,v2-1-v3,65536-v2,v4-0,1048576-v4,v4-m2],v5-v1,[]⟩])]
def An5:List HH:=[(2,ZD)]
def An6:List HH:=[(3,[⟨[(4,R),(5,I)],[],[0],[],[v1-v0,v2-v1],v2-v1,[]⟩])]
def An7:List HH:=[(9,[⟨[(8,.one (.own 9 1)),(9,I)],HE,[7],[],[v1-0,v5-v1,p 5 v1-m0,v1-v0],v5-v1,[]⟩])]
def An8:List HH:=[(5,[⟨[(10,.one (.own 216 9)),(11,I)],HE,[9,8],[],XP,v5-v1,[]⟩])]
def An9:List HH:=[(3,[⟨[(5,.one (.own 72 7)),(6,I)],HE,[1],[],[v1-0,v5-v1,p 5 v1-250000*v1,100000000000-m5,p 5 v1-m0,v1-v0],v5-v1,[]⟩])]
def An_:List HH:=[(5,[⟨[(3,.one (.own 9 1)),(4,S),(5,I)],[],[0],[],[v2-0,v3-v2,v2-(m0+v1),v2-v0],v3-v2,[]⟩])]
def Aoa:List HH:=[(2,[⟨[(5,I)],[],[0],[],[v0-0,v1+1-v0],v1-v0+1,[]⟩])]
def Aob:List HH:=[(2,[⟨[(5,I),(1,I)],[],[],[(2,0)],[v1-k (-1),v2-1-v1,v0-0,v4-(v0+v1)],v1+1,[]⟩])]
def Aoc:List HH:=[(22,[⟨[(6,I),(9,I)],[],[7],[],[v1-1,v2-v1],v2-v1,[]⟩])]
def Aod:List HH:=[(10,[⟨[(8,B),(6,R),(7,I),(5,I)],[],[0],[],[v3-0,v4-v3,v3-v1,v2-0,v1-v2,200-v4],v4-v3,[]⟩])]
def Aoe:List HH:=[(2,[⟨[(3,R)],[],[],[],[v2+21-v0],2000-v0,[]⟩]),
(8,[⟨[(5,I)],[],[3],[],[v0-(v1-20),v1-v0,v1-21],v0,[]⟩]),
(11,[⟨[(4,.one (.ar .u8)),(6,I)],[],[5,3],[],[v1-0,v2-v1,v3-v2,2*v1+1-v0,v5+21-v3],v2-v1,[]⟩])]
def Aof:List HH:=[(2,[MZ])]
def Aog:List HH:=[(7,[⟨[(6,I),(5,.one (.own 341 3))],[],[0],[],[v0-0,v2-v0,v0-v1,20100*v0-m1],v2-v0,[]⟩])]
def Aoh:List HH:=[(3,[⟨[(3,I),(4,I)],[],[0],[],Mv,v2-v1,[]⟩])]
def Aoi:List HH:=[(5,[⟨[(4,.one (.own 66 2))],[(0,GO)],[],[(0,0)],[v1-0,v3-v1,1000000000-v3,30000000000-m3,v1-v5-1,v1-v0,p 3 v1-p 4 v5-(m0+2800)],v3-v1+1,[]⟩,ZA])]
def Aoj:List HH:=[(5,[ZA])]
def Aok:List HH:=[(3,[⟨[(4,I),(5,I),(6,I)],[],[],[(1,15)],[v2-0,v3-v2],v3-v2,[]⟩])]
def Aom:List HH:=[(4,[⟨[(4,B),(3,.one (.ar .u8)),(5,I)],[],[0],[],[v2-(v1+v0),v3-v2],v3-v2,[]⟩])]
def Aoo:List HH:=[(1,[⟨[(0,R)],[],[],[],[v1-v0],v0,[]⟩])]
def Aop:List HH:=[(3,[⟨[(6,I)],HE,[],[(3,2)],[v0-0,v4-v0],v4-v0,[]⟩]),
(8,[⟨[(7,I)],[(5,Tl),(0,Bx)],[],[(3,2)],[v0-0,v5-v0,p 5 v0-m1,p 5 v0-250000*v0,v0-v1],v5-v0,[]⟩])]
def Aoq:List HH:=[(4,[⟨[(6,I)],[(5,[o,o,o,some z4,o,o,o,o,o,o,o,o,o,o,o,o,o,o,o,o,o,o,o,o,o,o,o,o,o,o,o,o,o,o,o,o,o,o,o,o,o,o,o,o,o,o,o,o,o,o,o]),(0,Bx)],[],[(3,6)],[v0-0,v5-v0,m5-m1],v5-v0,[]⟩])]
def Aor:List HH:=[(8,[⟨[(8,I),(9,I),(10,I)],[],[5],[],[v0-0,4-v0,v2-1,5-v2],5-v2,[]⟩])]
def Aos:List HH:=[(6,[⟨[(8,I)],[(5,[o,o,o,o,o,o,o,o,o,o,o,o,o,o,o,o,o,o,o,o,o,o,o,o,o,o,o,o,o,o,o,o,o,o,o,o,o,o,o,o,o,o,o,o,o,some (.own 290 10),o,o,o,o,o]),(0,Bx)],[7,6],[],XQ,v5-v0,[]⟩]),
(10,[⟨[(9,I)],[(5,[o,o,o,o,o,o,o,o,o,o,o,o,o,o,o,o,o,o,o,o,o,o,o,o,o,o,o,o,o,o,o,o,o,o,o,o,o,o,o,o,o,o,o,o,o,o,o,some z7,o,o,o]),(0,Bx)],[7,6],[],[v0-v5,v5-0,v6-v0,p 6 v0-(m1+p 6 v5)],v6-v0,[]⟩])]
def Aot:List HH:=[(6,[⟨[(8,I)],[(5,Tl),(0,Bx)],[7,6],[],XQ,v5-v0,[]⟩]),
(10,[⟨[(9,I)],[(5,Tl),(0,Bx)],[7,6],[],[v0-0,v6-v0,p 6 v0-250000*v0,100000000000-m6,v0-v5,p 6 v0-m1,v0-v1],v6-v0,[]⟩])]
def Aou:List HH:=[(5,[⟨[(7,I)],[],[6],[],[v0-0,v1-v0,p 1 v0-250000*v0],v1-v0,[]⟩]),
(9,[⟨[(8,I)],[(5,[o,o,o,o,o,o,o,o,o,o,o,o,o,o,o,o,o,o,o,o,o,o,o,o,o,o,o,o,o,o,o,o,o,o,o,o,o,o,o,o,o,o,o,o,o,o,some (.own 294 11),o,o,o,o]),(0,Bx)],[6,7],[],[v0-0,v5-v0,p 5 v0-250000*v0,100000000000-m5,v0-v6,p 5 v0-(m1+p 5 v6),v0-v1],v5-v0,[]⟩])]
def Aov:List HH:=[(9,[⟨[(7,I),(8,I)],[(5,[o,o,o,o,o,o,o,o,o,o,o,o,o,o,o,o,o,o,o,o,o,o,o,o,o,o,o,o,o,o,o,o,o,o,o,o,o,o,o,o,o,o,o,o,o,o,o,some z7,some z7,o,o]),(0,Bx)],[6],[],[v1-0,v7-v1,p 7 v1-(m2+m3)],v7-v1,[]⟩])]
def Aow:List HH:=[(8,[⟨[(5,S),(6,I),(4,.one (.own 282 4))],[],[0],[],[v1-0,v3-v1,2*v1-v2,v1-v0,20200*v1-(m2+v0)],v3-v1,[]⟩])]
def Aox:List HH:=[(6,[⟨[(5,I)],[(3,[ji,ji,ji,js,js]),(0,GO)],[4],[(0,0)],[v6-0,v9-v6,1000000000-v9,30000000000-m9,v0-0,v8-v0,v6-CJ-1,p 9 v6-p 10 CJ-(v4+v5+8000)],v8-v0,[]⟩,⟨[(5,I)],[(3,[ji,ji,ji,js,js]),(0,Da)],[4],[(0,0)],[v6-0,v9-v6,1000000000-v9,30000000000-m9,v0-0,v8-v0,v6-CJ],v8-v0,[]⟩])]
def Aoy:List HH:=[(6,[⟨[(5,I)],[(3,[ji,ji,ji,js,js]),(0,[o,o,jt])],[4],[],[v0-0,v7-v0],v7-v0,[]⟩])]
def Aoz:List HH:=[(2,[⟨[(1,I)],[],[0],[],[v0-(v3+2),v1-v0],v1-v0,[]⟩])]
def Ao0:List HH:=[(4,[⟨[(5,I)],[],[0,1],[],[v0-1,v1-(v2+v0)],v1-v2-v0,[]⟩])]
def Ao1:List HH:=[(2,[MZ])]
def Ao2:List HH:=[(2,[MZ])]
def Ao3:List HH:=[(7,[MZ])]
def Ao4:List HH:=[(5,[⟨[(7,I),(8,I)],[],[5],[],Mv,v2-v1,[]⟩])]
def Ao5:List HH:=[(5,[⟨[(9,.one (.own 216 9)),(8,.one (.own 286 8)),(11,I)],HE,[10],[],[v2-0,v6-v2,p 6 v2-250000*v2,100000000000-m6,p 6 v2-(m0+m1),v2-v0,v2-v1],v6-v2,[]⟩])]
def Ao6:List HH:=[(5,[⟨[(8,.one (.own 286 8)),(9,I)],HE,[7,6],[],XP,v5-v1,[]⟩])]
def Ao7:List HH:=[(6,[⟨[(7,I)],[(5,[o,o,o,o,o,o,o,o,o,o,o,o,o,o,o,o,some (.own 286 8)]),(0,Bx)],[6],[],Se,v5-v0,[]⟩])]
def Ao8:List HH:=[(9,[⟨[(8,R),(9,I)],HE,[7],[],[v1-0,v5-v1,v1-v0],v5-v1,[]⟩]),
(13,[⟨[(10,I),(11,I)],[],[7,9],[],[v1-0,2500000-v1],3000000-v1,[]⟩])]
def Ao9:List HH:=[(2,[Zy])]
def Ao_:List HH:=[(5,[⟨[(9,I),(7,I),(8,S)],[],[0],[],[v0-v1,v1-(v5+1),v3-v0,v1-v5-1-v2],v3-v0,[]⟩])]
def Apa:List HH:=[(5,[⟨[(7,I),(8,I),(6,B)],[],[0],[],[v0-v5,v3-v0,v1-0,v0-v5-v1],v3-v0,[]⟩])]
def Apb:List HH:=[(3,[⟨[(6,I)],[],[5],[],Mw,v1-v0,[]⟩])]
def Apc:List HH:=[(5,[⟨[(6,B)],[(5,Ii),(0,GO)],[],[(0,0)],[Fs-0,Ce-Fs,1000000000-Ce,30000000000-Lv,Fs-I9-1,p 19 Fs-p 20 I9-(v2+v3+v6+v9+Er+HJ+Ek+Iu+3000+200*LQ),Bz-(m1-1)],Ce-Fs+v0+2,[]⟩,⟨[(6,B)],[(5,Ii),(0,Da)],[],[(0,0)],[Fs-0,Ce-Fs,1000000000-Ce,30000000000-Lv,Fs-I9,Bz-(m1-1)],v0,[]⟩])]
def Apd:List HH:=[(2,[⟨[(5,I)],[],[0],[],[v0-(v3+1),v1-v0],v1-v0,[]⟩])]
def Ape:List HH:=[(2,[Zy])]
def Apf:List HH:=[(1,[⟨[(1,I)],[],[0],[],[v0-v3,v1-v0],v1-v0,[]⟩])]
def Apg:List HH:=[(1000007,[⟨[],N_,[],[(0,0)],[Bz-0,Cj-Bz,1000000000-Cj,30000000000-DX,Bz-Ds-1,p 18 Bz-p 19 Ds-(v1+v2+v5+v8+DZ+Er+GS+Ek+5900),Dm-(m0-1)],0,[]⟩,Na]),
(1000012,[⟨[],N_,[],[(0,0)],[Bz-0,Cj-Bz,1000000000-Cj,30000000000-DX,Bz-Ds-1,p 18 Bz-p 19 Ds-(v1+v2+v5+v8+DZ+Er+GS+Ek+5800),Dm-(m0-1)],0,[]⟩,Na])]
def Aph:List HH:=[(2,[⟨[],N_,[],[(0,0)],[Bz-0,Cj-Bz,1000000000-Cj,30000000000-DX,Bz-Ds-1,p 18 Bz-p 19 Ds-(v1+v2+v5+v8+DZ+Er+GS+Ek+6200),Dm-(m0-1)],Cj-Bz+1,[]⟩,Na])]
def Api:List HH:=[(3,[⟨[(4,I)],[],[3],[],[v0-0,v1-v0,9-v1],v1-v0,[]⟩])]
def Apj:List HH:=[(6,[⟨[],N_,[],[(0,0)],[Bz-0,Cj-Bz,1000000000-Cj,30000000000-DX,Bz-Ds-1,p 18 Bz-p 19 Ds-(v1+v2+v5+v8+DZ+Er+GS+Ek+6500),Dm-(m0-1)],Cj-Bz+1,[]⟩,Na])]
def Apk:List HH:=[(6,[⟨[(5,.one (.own 66 2))],[(0,GO)],[],[(0,0)],[v1-0,v3-v1,1000000000-v3,30000000000-m3,v1-v5-1,v1-v5-v0,p 3 v1-p 4 v5-m0],v3-v1+1,[]⟩,ZB])]
def Apl:List HH:=[(6,[ZB])]
def Apm:List HH:=[(10,[⟨[],[(4,Ii),(0,GO)],[],[(0,0)],XV,Cj-Bz+1,[]⟩,Z_]),
(1000010,[⟨[],[(4,Ii),(0,GO)],[],[(0,0)],XV,0,[]⟩,Z_])]
def Apn:List HH:=[(2,[⟨[],N_,[],[(0,0)],[Bz-0,Cj-Bz,1000000000-Cj,30000000000-DX,Bz-Ds-1,p 18 Bz-p 19 Ds-(v1+v2+v5+v8+DZ+Er+GS+Ek+7700),Dm-(m0-1)],Cj-Bz+1,[]⟩,Na])]
def Apo:List HH:=[(2,[⟨[],[(3,Ii),(0,[o,o,jt])],[],[],Mu,0,[]⟩])]
def App:List HH:=[(2,[⟨[(3,.one (.own 66 2))],[(0,GO)],[],[(0,0)],[v1-v5,v5-v1,v0-0,0-v0,m0-0,0-m0,v3-v1],v3-v1+1,[]⟩,⟨[(3,.one (.own 66 2))],[(0,GO)],[],[(0,0)],[v1-0,v3-v1,1000000000-v3,30000000000-m3,v1-(v5+1),v1-v5-v0,p 3 v1-p 4 v5-(m0+10000)],v3-v1+1,[]⟩,⟨[(3,.one (.own 66 2))],[(0,Da)],[],[(0,0)],Sc,0,[]⟩])]
def Apq:List HH:=[(2,[⟨[(3,.one (.own 66 2))],[(0,[o,o,jt])],[],[],[v0-0,0-v0],0,[]⟩])]
def Apr:List HH:=[(3,[⟨[(4,B),(5,B),(6,I)],[],[0],[],[v2-0,v3-v2,v2-v1],v3-v2,[]⟩])]
def Aps:List HH:=[(6,[Zx]),
(16,[⟨[(8,.one (.own 66 2)),(9,B)],[(0,GO)],[],[(0,0)],XU,v4-v2+1,[]⟩,⟨[(8,.one (.own 66 2)),(9,B)],[(0,Da)],[],[(0,0)],XN,v1,[]⟩]),
(30,[⟨[(12,.one (.own 9 1)),(13,B)],[(0,GO)],[],[(0,0)],XU,v4-v2+1,[]⟩,⟨[(12,.one (.own 9 1)),(13,B)],[(0,Da)],[],[(0,0)],XN,v1,[]⟩])]
def Apt:List HH:=[(6,[Zx]),
(16,[⟨[(8,.one (.own 66 2)),(9,B)],[(0,[o,o,jt])],[],[],[2-(v0+2*v1)],v1,[]⟩]),
(30,[⟨[(12,.one (.own 9 1)),(13,B)],[(0,[o,o,jt])],[],[],[2-(v0+2*v1)],v1,[]⟩])]
def Apu:List HH:=[(3,[⟨[(5,T),(6,I)],[],[4],[],[v1-0,v2-v1,v3-v4-1,p 3 (v4+1)-p 3 v4-10000,3000000-v2],v2-v1,[]⟩,Zz])]
def Apv:List HH:=[(3,[Zz])]
def Apw:List HH:=[(14,[Z5])]
def Apx:List HH:=[(14,[Z5])]
def Apy:List HH:=[(1,[Vu]),
(3,[Vu])]
def Apz:List HH:=[(2,ZD)]
def Ap0:List HH:=[(15,[⟨[(5,I),(6,I)],[],[0],[],[v1-0,v2-v1,v0-0,1000000-v0],v2-v1,[]⟩])]
def Ap1:List HH:=[(8,[⟨[(3,W),(4,W)],[],[],[],[v0-0,v1-v0,9218868437227405312-v1],v1-v0,[]⟩])]
def Ap2:List HH:=[(4,[⟨[(5,I)],[],[],[(3,0)],[v0-1,v1-v0],v1-v0,[]⟩])]
def Ap3:List HH:=[(8,[⟨[(5,S)],[],[3,4],[],[v1-(v0+v2)],v0,[]⟩])]
def Ap4:List HH:=[(1,[Vu])]
def Ap5:List HH:=[(4,[⟨[(4,I),(3,S),(5,I)],[],[0],[],[v2-k (-1),v3-v2-1,v1-(v3-1-v2),v3-1-v2-v1],v2+1,[]⟩])]
def Ap6:List HH:=[(3,[⟨[(3,S),(4,I)],[],[0],[],[v1-0,0-v1,v0-0,0-v0],1000001,[]⟩,⟨[(3,S),(4,I)],[],[0],[],[v1-0,v2-v1,v0-v1,v1-v0],v2-v1,[]⟩])]
def Ap7:List HH:=[(3,[⟨[(3,R),(4,I)],[],[0],[],[v1-0,v2-v1,3*v1-v0],v2-v1,[]⟩])]
def Ap8:List HH:=[(6,[⟨[(5,I)],[],[0,1],[],[v0-k (-1),v1-v0-1,v1-v2,v2-v1],v0+1,[]⟩])]
def Ap9:List HH:=[(2,[⟨[(0,R),(7,I)],[],[2],[],[v1-0,v2-v1,v3+3*v1-v0],v2-v1,[]⟩])]
def Ap_:List HH:=[(3,[⟨[(2,I),(7,R),(8,I)],[],[0],[],[v2-0,v3-v2,v1-v2,v2-v1],v3-v2,[]⟩]),
(8,[⟨[(7,R),(2,I)],[],[0],[],[v0-v2,v2-v0],v2+4-v0,[]⟩,⟨[(7,R),(2,I)],[],[0],[],[v0-(v2+1),v2+1-v0,9223372036-v1],v2+4-v0,[]⟩,⟨[(7,R),(2,I)],[],[0],[],[v0-(v2+2),v2+2-v0,9223372036-1000000000*v1],v2+4-v0,[]⟩,⟨[(7,R),(2,I)],[],[0],[],[v0-(v2+3),v2+3-v0,9223372036-1000000000000000000*v1],v2+4-v0,[]⟩])]
def Aqa:List HH:=[(4,[⟨[(6,I),(5,R),(7,I)],[],[0,1],[],[v2-0,v3+v4+0-v2,v1-v2,v2-v1],v3+v4+10-v2,[]⟩,⟨[(6,I),(5,R),(7,I)],[],[0,1],[],[v2-0,9223372036-v0,v3+v4+1-v2,v1-v2,v2-v1],v3+v4+10-v2,[]⟩,⟨[(6,I),(5,R),(7,I)],[],[0,1],[],[v2-0,9223372036-1000000000*v0,v3+v4+2-v2,v1-v2,v2-v1],v3+v4+10-v2,[]⟩,⟨[(6,I),(5,R),(7,I)],[],[0,1],[],[v2-0,9223372036-1000000000000000000*v0,v3+v4+3-v2,v1-v2,v2-v1],v3+v4+10-v2,[]⟩])]
def Aqp:List (Nat×List (Nat×List BL)):=[(192,Aol),(193,Aon),(368,Aqb),(384,Aqc),(392,Aqd),(416,Aqe),(800,Aqf),(808,Aqg),(816,Aqh),(832,Aqi),(872,Aqj),(896,Aqk),(904,Aql),(912,Aqm),(1360,An4),(1392,An5),(1400,An6),(1432,An7),(1448,An8),(1456,An9),(1504,An_),(1776,Aoa),(1792,Aob),(1808,Aoc),(1824,Aod),(1832,Aoe),(1840,Aof),(1888,Aog),(1896,Aoh),(1904,Aoi),(1905,Aoj),(1912,Aok),(1920,Aom),(2048,Aoo),(2080,Aop),(2088,Aoq),(2128,Aor),(2136,Aos),(2144,Aot),(2160,Aou),(2168,Aov),(2184,Aow),(2192,Aox),(2193,Aoy),(2216,Aoz),(2240,Ao0),(2248,Ao1),(2249,Ao2),(2296,Ao3),(2312,Ao4),(2328,Ao5),(2336,Ao6),(2344,Ao7),(2360,Ao8),(2376,Ao9),(2408,Ao_),(2424,Apa),(2432,Apb),(2472,Apc),(2496,Apd),(2504,Ape),(2552,Apf),(2584,Apg),(2608,Aph),(2616,Api),(2624,Apj),(2640,Apk),(2641,Apl),(2648,Apm),(2696,Apn),(2697,Apo),(2704,App),(2705,Apq),(2728,Apr),(2736,Aps),(2737,Apt),(2744,Apu),(2745,Apv),(2760,Apw),(2761,Apx),(2768,Apy),(2792,Apz),(2800,Ap0),(2816,Ap1),(2840,Ap2),(2848,Ap3),(2864,Ap4),(2896,Ap5),(2920,Ap6),(2936,Ap7),(2960,Ap8),(2976,Ap9),(2984,Ap_),(2992,Aqa)]
def loops(f j:Nat):Nat->List BL:=λr=>(Ck.get ((Ck.get Aqp (f*8+j)).getD []) r).getD []
def Arh:List (Nat×LK):=[(44,.fz 0)]
def Ari:List (Nat×LK):=[(44,.fz 0)]
def Arj:List (Nat×LK):=[(44,.fz 0)]
def Ark:List (Nat×LK):=[(44,.fz 0)]
def Arl:List (Nat×LK):=[(44,.fz 0)]
def Arm:List (Nat×LK):=[(44,.fz 0)]
def lkF(f t:Nat):LK:=match Ck.get ([(298,Arh),(304,Ari),(315,Arj),(325,Ark),(334,Arl),(336,Arm)]:List (Nat×List (Nat×LK))) f with
 |some l=>(match Ck.get l t with|some x=>x|none=>V_ t)
 |none=>V_ t
def Aud(f:Nat):Bool:=[24].any (Nat.beq f)
def Arc(f:Nat):Bool:=[52,103,182,260,268].any (Nat.beq f)
def extF(f:Nat):Option Bool:=Ck.get [(353,true),(354,false)] f
def G0:C4:={T:=eT,ty:=ty,lk:=V_,con:=con,nt:=0,lay:=0,m0:=.k 0,ext:=extF}
def YA(f n:Nat):C4:={G0 with nt:=n,lk:=lkF f,spl:=Aud f,lits:=Arc f}
end Go.Ck
