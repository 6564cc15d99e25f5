/- a certificate's law by that interpreter (part 24): what the program's functions answer, or plain laws of it; no conditions. -/
import Derived.Test.YtgiobgojobegfaaGreatDoorB04
import Derived.Test.YtgiobgojobegfaaGreatDoorB07
import Derived.Test.YtgiobgojobegfaaGreatDoorB18
set_option linter.all false
namespace Go.Mini
open Go Go.Mini.Nm Go.Proofs.YtgiobgojobegfaaGreatDoor
set_option maxRecDepth 100000
set_option maxHeartbeats 80000000
def hV (s:List UInt8):MV:=.agg [.int .i64 2,.str s,.nilsl]
def o5:List (Nat × Option (Bool × Nat) × PK):=[(2,none,.ownE 3)]
def rb:MCode:=(.seq (.rg [oT 18 (.mv (.v 3)),
  oV 2 (.mv (.t 18))])
  (.ret))
def o6 (l vs:List MV) (i:Nat):DS:=⟨[(3,.own (if i=0 then 1 else 0) i),(6,.sl 1 l),(7,.int .i64 l.length),(8,.int .i64 i)],[],[(if i=0 then 1 else 0,.el 3 vs false)],2⟩
theorem H1 (K:List Item) (l vs:List MV) (hl:l.length≤2^30) (i:Nat) (hI:vs.length=i) (s:List UInt8) (hg:l[i]? = some (.str s)):
  am o5 (RunL Q m21k0 m21b0 K (o6 l vs i))=am o5 (RunL Q m21k0 m21b0 K (o6 l (vs++[hV s]) (i+1))):=by
 obtain⟨hi,hxx⟩:=List.getElem?_eq_some_iff.1 hg
 have hlt:decide ((i:Int)<(l.length:Int))=true:=by simp;omega
 have i1:(i:Int)<(l.length:Int):=by omega
 have e9:((i+1:Nat):Int)=(i:Int)+1:=rfl
 have ha:(if i=0 then 1 else 0)≤1:=by split<;>omega
 unfold o6 hV
 rw[if_neg (Nat.succ_ne_zero i),e9]
 generalize(if i=0 then 1 else 0)=aa at ha ⊢
 obtain⟨b',hb'⟩:∃b',b'=m21b0:=⟨_,rfl⟩
 rw[ah,show Item.lp m21k0 m21b0=Item.lp m21k0 b' by rw[hb']]
 apply ae;intro rhs hrhs
 simp(maxSteps:=4000000)(disch:=first|exact dz|fail)only[bB.u,seval,cut,m21b0,hlt,i1,hg,hI]
 subst hrhs;(subst hb';refine(congrArg (am _) (aA Q _ _ _ _)).trans ?_;exact congrArg (am o5) (af (canon_cong kr kr kr)))
theorem IX (l vs:List MV) (hI:vs.length=l.length):am o5 (RunL Q m21k0 m21b0 [.blk 0,.code rb] (o6 l vs l.length))=some (.fel 3 vs):=by
 have hlt:decide ((l.length:Int)<(l.length:Int))=false:=by simp
 unfold o6
 generalize(if l.length=0 then 1 else 0)=aa
 obtain⟨b',hb'⟩:∃b',b'=m21b0:=⟨_,rfl⟩
 rw[ah,show Item.lp m21k0 m21b0=Item.lp m21k0 b' by rw[hb']]
 apply ae;intro rhs hrhs
 simp(maxSteps:=4000000)(disch:=first|exact dz|fail)only[bB.u,seval,cut,m21b0,rb,o5,hlt,hI]
 subst hrhs;rfl
theorem DO (l:List MV) (hl:l.length≤2^30):∀(r:List (List UInt8)) (i:Nat) (vs:List MV),l.drop i=r.map MV.str→vs.length=i→i≤l.length →
  am o5 (RunL Q m21k0 m21b0 [.blk 0,.code rb] (o6 l vs i))=some (.fel 3 (vs++r.map hV))
 | [],i,vs,hd,hi,hle=>by
  have:i=l.length:=by
   have:=congrArg List.length hd
   simp at this;omega
  subst this
  rw[IX l vs hi];simp
 |s::r,i,vs,hd,hi,hle=>by
  have hg:l[i]? = some (.str s):=by
   have:=congrArg (fun x=>x[0]?) hd
   simpa using this
  have hlt:i<l.length:=(List.getElem?_eq_some_iff.1 hg).1
  have hd2:l.drop (i+1)=r.map MV.str:=by rw[←List.drop_drop,hd];rfl
  rw[H1 _ l vs hl i hi s hg,DO l hl r (i+1) (vs++[hV s]) hd2 (by simp[hi]) hlt]
  simp
theorem F1 (n:Nat) (hn:n≤300):Call Q 21 [.sl 1 (List.replicate n (.str []))]=some (.fel 3 (List.replicate n (hV []))):=by
 have h:=DO (List.replicate n (.str [])) (by simp;omega) (List.replicate n []) 0 [] (by simp) rfl (by omega)
 rw[List.map_replicate,List.nil_append]at h
 generalize List.replicate n (hV [])=vs at *
 have hl:(List.replicate n (MV.str [])).length=n:=by simp
 generalize List.replicate n (MV.str [])=l at *
 unfold o6 at h
 rw[if_pos rfl]at h
 rw[Call_fn Q (m:=m21) rfl rfl]
 apply ae;intro rhs hrhs
 simp(maxSteps:=4000000)(disch:=first|exact dz|fail)only[bB.u,seval,cut,m21,aq]
 subst hrhs;exact(congrArg (am _) (af (canon_cong kr kr kr))).trans h
def bL:List (Nat × Option (Bool × Nat) × PK):=[(4,none,.other)]
def aL:MCode:=(sq [oT 43 (.build gR [(0,1,qk 1),(1,1,qk 1),(6,1,qk 1),(9,1,.c (.int .i64 (-1)))]),oV 7 (.alloc gR),qg 15 7 43] (.seq (sq [oV 44 (.mv (.v 1))] (.block 2 (sq [qy 46 .eql 44 0,qb 45 46] (.cond (.v 45) (.rg [qa 47 5,qd 48 11 7,oN (.store 1 (.t 48) (.t 47))]) (sq [qy 50 .eql 44 1,qb 49 50] (.cond (.v 49) (.rg [qa 51 5,qd 52 12 7,oN (.store 1 (.t 52) (.t 51))]) (sq [qy 54 .eql 44 2,qb 53 54] (.cond (.v 53) (.rg [qa 55 5,qd 56 13 7,oN (.store 1 (.t 56) (.t 55))]) (sq [qy 58 .eql 44 3,qb 57 58] (.cond (.v 57) (sq [qa 59 0,oT 60 (.mksE 3 24 (.agg [qI 0,qI 0,qI 0]) (.t 59) (.t 59)),oT 61 (.build kI [(5,1,qk 1),(4,1,.t 60)]),oV 8 (.alloc kI),qg 7 8 61] (sq [qi 63 7 8,qt 64 22 63,qf 62 64,qh 65 0 62,qh 66 1 62,qb 9 65,qb 10 66] (sq [qa 68 9,qt 69 23 68,qf 67 69,qh 70 0 67,qh 71 1 67,oV 11 (.alloc kI),qg 7 11 70,qb 12 71] (sq [qa 72 0,qx 73 .gtr 72 256,qf 74 73,qM 75 10 74,qV 76 .eql 75 30 74,qp 77 74 76,qf 78 77,qL 79 0 78,qW 80 .leq 79 256 78,gF 81 (.mv (.t 80)) 78,qM 82 10 81,qV 83 .eql 82 0 81,gF 84 (.pick (.t 81) (.t 83) qF) 78,gF 85 (.mv (.t 84)) 78,qM 86 12 85,qV 87 .eql 86 0 85,gF 88 (.pick (.t 85) (.t 87) qF) 78,gF 89 (.mv (.t 88)) 78,qR 90 4 11 89,qP 91 90 89,gT 92 (.len false (.t 91)) 89,qM 93 0 89,gT 94 (.bin .eql (.t 92) (.t 93)) 89,gF 95 (.pick (.t 89) (.t 94) qF) 78,qo 96 78 95,qb 4 96] .ret)))) (sq [qy 98 .eql 44 4,qb 97 98] (.cond (.v 97) (sq [qa 99 5,oT 100 (.build kJ [(1,1,qk 1),(4,1,qk 1),(3,1,.t 99)]),oV 13 (.alloc kJ),qg 6 13 100] (sq [qi 102 6 13,qt 103 24 102,qf 101 103,qh 104 0 101,qh 105 1 101,qb 14 104,qb 15 105] (sq [qa 107 14,qt 108 25 107,qf 106 108,qh 109 0 106,qh 110 1 106,oV 16 (.alloc kJ),qg 6 16 109,qb 17 110] (sq [qa 111 0,qx 112 .gtr 111 256,qf 113 112,qM 114 15 113,qV 115 .eql 114 30 113,qp 116 113 115,qf 117 116,qL 118 0 117,qW 119 .leq 118 256 117,gF 120 (.mv (.t 119)) 117,qM 121 15 120,qV 122 .eql 121 0 120,gF 123 (.pick (.t 120) (.t 122) qF) 117,gF 124 (.mv (.t 123)) 117,qM 125 17 124,qV 126 .eql 125 0 124,gF 127 (.pick (.t 124) (.t 126) qF) 117,gF 128 (.mv (.t 127)) 117,qR 129 3 16 128,qP 130 129 128,gT 131 (.len false (.t 130)) 128,qM 132 0 128,gT 133 (.bin .eql (.t 131) (.t 132)) 128,gF 134 (.pick (.t 128) (.t 133) qF) 117,qo 135 117 134,qb 4 135] .ret)))) (sq [qm 4] .ret))))))))))))) (sq [qi 137 15 7,qt 138 11 137,qf 136 138,qh 139 0 136,qh 140 1 136,qb 18 139,qb 19 140] (sq [qa 142 18,qt 143 14 142,qf 141 143,qh 144 0 141,qh 145 1 141,oV 20 (.alloc gR),qg 15 20 144,qb 21 145] (sq [qa 146 0,qx 147 .gtr 146 256,qf 148 147,qM 149 19 148,qV 150 .eql 149 30 148,qp 151 148 150,qf 152 151,qL 153 0 152,qW 154 .leq 153 256 152,gF 155 (.mv (.t 154)) 152,qM 156 19 155,qV 157 .eql 156 0 155,gF 158 (.pick (.t 155) (.t 157) qF) 152,gF 159 (.mv (.t 158)) 152,qM 160 21 159,qV 161 .eql 160 0 159,gF 162 (.pick (.t 159) (.t 161) qF) 152,gF 163 (.mv (.t 162)) 152,qR 164 11 20 163,qP 165 164 163,gT 166 (.len false (.t 165)) 163,qR 167 12 20 163,qP 168 167 163,gT 169 (.len false (.t 168)) 163,gT 170 (.bin .add (.t 166) (.t 169)) 163,qR 171 13 20 163,qP 172 171 163,gT 173 (.len false (.t 172)) 163,gT 174 (.bin .add (.t 170) (.t 173)) 163,qM 175 0 163,gT 176 (.bin .eql (.t 174) (.t 175)) 163,gF 177 (.pick (.t 163) (.t 176) qF) 152,qo 178 152 177,qb 4 178] .ret)))))
def bz (n:Nat) (w:Int) (l:List MV) (i:Nat):DS:=⟨[(0,.int .i64 n),(1,.int .i64 w),(5,.own 0 n),(34,.int .i64 n),(35,.int .i64 i)],[],[(0,.el 3 l false)],2⟩
theorem H2 (n w:Int) (h:n<0∨300<n):Call Q 7 [.int .i64 n,.int .i64 w]=some (.bool true):=by
 have hn:=wA
 rw[Call_fn Q (m:=m7) rfl rfl]
 by_cases h1:n<0
 ·have h1':decide (n<0)=true:=by simpa using h1
  apply ae;intro rhs hrhs
  simp(maxSteps:=4000000)(disch:=first|exact dz|fail)only[bB.u,seval,cut,m7,hn,h1']
  subst hrhs;rfl
 ·have h1':decide (n<0)=false:=by simpa using h1
  have h2':decide (300<n)=true:=by have:=h.resolve_left h1;simpa using this
  apply ae;intro rhs hrhs
  simp(maxSteps:=4000000)(disch:=first|exact dz|fail)only[bB.u,seval,cut,m7,hn,h1',h2']
  subst hrhs;rfl
theorem F2 (n:Nat) (hn:n≤300) (w:Int):Call Q 7 [.int .i64 n,.int .i64 w]=am bL (RunL Q m7k0 m7b0 [.blk 0,.code aL] (bz n w (List.replicate n (hV [])) 0)):=by
 have ha:=wA
 have hh:=F1 n hn
 have h1':decide ((n:Int)<0)=false:=by simp
 have h2':decide (300<(n:Int))=false:=by simp;omega
 have hl:(List.replicate n (MV.str [])).length=n:=by simp
 have hl2:(List.replicate n (hV [])).length=n:=by simp
 generalize List.replicate n (hV [])=vs at *
 unfold bz
 rw[Call_fn Q (m:=m7) rfl rfl]
 apply ae;intro rhs hrhs
 simp(maxSteps:=4000000)(disch:=first|exact dz|fail)only[bB.u,seval,cut,m7,ha,hh,h1',h2',hl,hl2,aq]
 subst hrhs;exact congrArg (am bL) (af (canon_cong kr kr kr))
theorem F3 (n:Nat) (hn:n≤300) (w:Int) (l:List MV) (i:Nat) (hl:l.length=n) (hi:i<n) (hg:l[i]? = some (hV [])):
  am bL (RunL Q m7k0 m7b0 [.blk 0,.code aL] (bz n w l i))=am bL (RunL Q m7k0 m7b0 [.blk 0,.code aL] (bz n w (l.set i (hV [97])) (i+1))):=by
 have hlt:decide ((i:Int)<(n:Int))=true:=by simp;omega
 have i1:(i:Int)<(n:Int):=by omega
 have e9:((i+1:Nat):Int)=(i:Int)+1:=rfl
 have hl2:(l.set i (hV [97])).length=n:=by simp[hl]
 unfold bz hV at *
 rw[e9]
 obtain⟨b',hb'⟩:∃b',b'=m7b0:=⟨_,rfl⟩
 rw[ah,show Item.lp m7k0 m7b0=Item.lp m7k0 b' by rw[hb']]
 apply ae;intro rhs hrhs
 simp(maxSteps:=4000000)(disch:=first|exact dz|fail)only[bB.u,seval,cut,m7b0,hlt,i1,hi,hg,hl,hl2]
 subst hrhs;(subst hb';refine(congrArg (am _) (aA Q _ _ _ _)).trans ?_;exact congrArg (am bL) (af (canon_cong kr kr kr)))
theorem BB (n:Nat) (hn:n≤300) (w:Int):∀(k i:Nat),i+k=n →
  am bL (RunL Q m7k0 m7b0 [.blk 0,.code aL] (bz n w (List.replicate i (hV [97])++List.replicate k (hV [])) i))=am bL (RunL Q m7k0 m7b0 [.blk 0,.code aL] (bz n w (List.replicate n (hV [97])) n))
 | 0,i,h=>by
  have:i=n:=by omega
  subst this;simp
 |k+1,i,h=>by
  have hg:(List.replicate i (hV [97])++List.replicate (k+1) (hV []))[i]? = some (hV []):=by
   rw[List.getElem?_append_right (by simp)];simp
  rw[F3 n hn w _ i (by simp;omega) (by omega) hg]
  have e:(List.replicate i (hV [97])++List.replicate (k+1) (hV [])).set i (hV [97])=List.replicate (i+1) (hV [97])++List.replicate k (hV []):=by
   rw[List.set_append_right _ _ (by simp),List.length_replicate,Nat.sub_self,List.replicate_succ,List.set_cons_zero,List.replicate_succ']
   simp
  rw[e,BB n hn w k (i+1) (by omega)]
theorem F4 (n:Nat) (hn:n≤300) (w:Int):Call Q 7 [.int .i64 n,.int .i64 w]=am bL (RunL Q m7k0 m7b0 [.blk 0,.code aL] (bz n w (List.replicate n (hV [97])) n)):=by
 rw[F2 n hn w]
 have:=BB n hn w n 0 (by omega)
 rwa [List.replicate_zero,List.nil_append]at this
theorem H3 (n:Nat) (hn:n≤256) (l:List MV) (hl:l.length=n) (b:List UInt8) (p0 p1 p4 p5 p6 p9 pa:Int) (p2 p3 p7 pb pc pd pe:MV) (p8:Bool) (f2:Fs p2) (f3:Fs p3) (f7:Fs p7) (fb:Fs pb) (fc:Fs pc) (fd:Fs pd) (fe:Fs pe) (a1 a2 a3:Nat) (l1:∀st,lenV false pb st=some (.int .i64 a1)) (l2:∀st,lenV false pc st=some (.int .i64 a2)) (l3:∀st,lenV false pd st=some (.int .i64 a3)) (hs:a1+a2+a3=n)
  (e1:Call Q 11 [.agg [.int .i64 1,.int .i64 1,.nilsl,.nilsl,.int .i64 0,.int .i64 0,.int .i64 1,.nilsl,.bool false,.int .i64 (-1),.int .i64 0,.sl 3 l,.nilsl,.nilsl,.nilsl]]=some (.tup [.bs b,.int .i64 0])) (e2:Call Q 14 [.bs b]=some (.tup [.agg [.int .i64 p0,.int .i64 p1,p2,p3,.int .i64 p4,.int .i64 p5,.int .i64 p6,p7,.bool p8,.int .i64 p9,.int .i64 pa,pb,pc,pd,pe],.int .i64 0])):am bL (RunL Q m7k0 m7b0 [.blk 0,.code aL] (bz n 0 l n))=some (.bool true):=by
 have hlt:decide ((n:Int)<(n:Int))=false:=by simp
 have q1:decide (256<(n:Int))=false:=by simp;omega
 have q2:decide ((n:Int)≤256)=true:=by simp;omega
 have q3:((a1:Int)+(a2:Int)+(a3:Int)==(n:Int))=true:=by rw[beq_iff_eq];omega
 have q4:IntKind.i64.wrap ((a1:Int)+a2)=(a1:Int)+a2:=by rw[fG]<;>omega
 have q5:IntKind.i64.wrap ((a1:Int)+a2+a3)=(a1:Int)+a2+a3:=by rw[fG]<;>omega
 unfold bz
 obtain⟨b',hb'⟩:∃b',b'=m7b0:=⟨_,rfl⟩
 rw[ah,show Item.lp m7k0 m7b0=Item.lp m7k0 b' by rw[hb']]
 apply ae;intro rhs hrhs
 simp(maxSteps:=4000000) (disch:=first|omega|exact aI (by(try simp only[bB.u,seval,cut,f2.a,f3.a,f7.a,fb.a,fc.a,fd.a,fe.a]);kernel_rfl)|decide) only[bB.u,seval,cut,m7b0,aL,bL,hlt,hl,q1,q2,q3,q4,q5,l1,l2,l3,e1,e2,ag,aj,f2.a,f3.a,f7.a,fb.a,fc.a,fd.a,fe.a]
 subst hrhs;rfl
theorem H4 (n:Nat) (hn:256<n) (h3:n≤300) (l:List MV) (hl:l.length=n) (f:Int) (e1:Call Q 11 [.agg [.int .i64 1,.int .i64 1,.nilsl,.nilsl,.int .i64 0,.int .i64 0,.int .i64 1,.nilsl,.bool false,.int .i64 (-1),.int .i64 0,.sl 3 l,.nilsl,.nilsl,.nilsl]]=some (.tup [.bs [],.int .i64 30])) (e2:Call Q 14 [.bs []]=some (.tup [.agg [.int .i64 0,.int .i64 0,.nilsl,.nilsl,.int .i64 0,.int .i64 0,.int .i64 0,.nilsl,.bool false,.int .i64 0,.int .i64 0,.nilsl,.nilsl,.nilsl,.nilsl],.int .i64 f])):am bL (RunL Q m7k0 m7b0 [.blk 0,.code aL] (bz n 0 l n))=some (.bool true):=by
 have hlt:decide ((n:Int)<(n:Int))=false:=by simp
 have q1:decide (256<(n:Int))=true:=by simp;omega
 unfold bz
 obtain⟨b',hb'⟩:∃b',b'=m7b0:=⟨_,rfl⟩
 rw[ah,show Item.lp m7k0 m7b0=Item.lp m7k0 b' by rw[hb']]
 apply ae;intro rhs hrhs
 simp(maxSteps:=4000000)(disch:=first|exact dz|fail)only[bB.u,seval,cut,m7b0,aL,bL,hlt,hl,q1,e1,e2]
 subst hrhs;rfl
theorem H5 (n:Nat) (hn:n≤256) (l:List MV) (hl:l.length=n) (b:List UInt8) (p0 p1 p4 p5 p6 p9 pa:Int) (p2 p3 p7 pb pc pd pe:MV) (p8:Bool) (f2:Fs p2) (f3:Fs p3) (f7:Fs p7) (fb:Fs pb) (fc:Fs pc) (fd:Fs pd) (fe:Fs pe) (a1 a2 a3:Nat) (l1:∀st,lenV false pb st=some (.int .i64 a1)) (l2:∀st,lenV false pc st=some (.int .i64 a2)) (l3:∀st,lenV false pd st=some (.int .i64 a3)) (hs:a1+a2+a3=n)
  (e1:Call Q 11 [.agg [.int .i64 1,.int .i64 1,.nilsl,.nilsl,.int .i64 0,.int .i64 0,.int .i64 1,.nilsl,.bool false,.int .i64 (-1),.int .i64 0,.nilsl,.sl 3 l,.nilsl,.nilsl]]=some (.tup [.bs b,.int .i64 0])) (e2:Call Q 14 [.bs b]=some (.tup [.agg [.int .i64 p0,.int .i64 p1,p2,p3,.int .i64 p4,.int .i64 p5,.int .i64 p6,p7,.bool p8,.int .i64 p9,.int .i64 pa,pb,pc,pd,pe],.int .i64 0])):am bL (RunL Q m7k0 m7b0 [.blk 0,.code aL] (bz n 1 l n))=some (.bool true):=by
 have hlt:decide ((n:Int)<(n:Int))=false:=by simp
 have q1:decide (256<(n:Int))=false:=by simp;omega
 have q2:decide ((n:Int)≤256)=true:=by simp;omega
 have q3:((a1:Int)+(a2:Int)+(a3:Int)==(n:Int))=true:=by rw[beq_iff_eq];omega
 have q4:IntKind.i64.wrap ((a1:Int)+a2)=(a1:Int)+a2:=by rw[fG]<;>omega
 have q5:IntKind.i64.wrap ((a1:Int)+a2+a3)=(a1:Int)+a2+a3:=by rw[fG]<;>omega
 unfold bz
 obtain⟨b',hb'⟩:∃b',b'=m7b0:=⟨_,rfl⟩
 rw[ah,show Item.lp m7k0 m7b0=Item.lp m7k0 b' by rw[hb']]
 apply ae;intro rhs hrhs
 simp(maxSteps:=4000000) (disch:=first|omega|exact aI (by(try simp only[bB.u,seval,cut,f2.a,f3.a,f7.a,fb.a,fc.a,fd.a,fe.a]);kernel_rfl)|decide) only[bB.u,seval,cut,m7b0,aL,bL,hlt,hl,q1,q2,q3,q4,q5,l1,l2,l3,e1,e2,ag,aj,f2.a,f3.a,f7.a,fb.a,fc.a,fd.a,fe.a]
 subst hrhs;rfl
theorem H6 (n:Nat) (hn:256<n) (h3:n≤300) (l:List MV) (hl:l.length=n) (f:Int) (e1:Call Q 11 [.agg [.int .i64 1,.int .i64 1,.nilsl,.nilsl,.int .i64 0,.int .i64 0,.int .i64 1,.nilsl,.bool false,.int .i64 (-1),.int .i64 0,.nilsl,.sl 3 l,.nilsl,.nilsl]]=some (.tup [.bs [],.int .i64 30])) (e2:Call Q 14 [.bs []]=some (.tup [.agg [.int .i64 0,.int .i64 0,.nilsl,.nilsl,.int .i64 0,.int .i64 0,.int .i64 0,.nilsl,.bool false,.int .i64 0,.int .i64 0,.nilsl,.nilsl,.nilsl,.nilsl],.int .i64 f])):am bL (RunL Q m7k0 m7b0 [.blk 0,.code aL] (bz n 1 l n))=some (.bool true):=by
 have hlt:decide ((n:Int)<(n:Int))=false:=by simp
 have q1:decide (256<(n:Int))=true:=by simp;omega
 unfold bz
 obtain⟨b',hb'⟩:∃b',b'=m7b0:=⟨_,rfl⟩
 rw[ah,show Item.lp m7k0 m7b0=Item.lp m7k0 b' by rw[hb']]
 apply ae;intro rhs hrhs
 simp(maxSteps:=4000000)(disch:=first|exact dz|fail)only[bB.u,seval,cut,m7b0,aL,bL,hlt,hl,q1,e1,e2]
 subst hrhs;rfl
theorem H7 (n:Nat) (hn:n≤256) (l:List MV) (hl:l.length=n) (b:List UInt8) (p0 p1 p4 p5 p6 p9 pa:Int) (p2 p3 p7 pb pc pd pe:MV) (p8:Bool) (f2:Fs p2) (f3:Fs p3) (f7:Fs p7) (fb:Fs pb) (fc:Fs pc) (fd:Fs pd) (fe:Fs pe) (a1 a2 a3:Nat) (l1:∀st,lenV false pb st=some (.int .i64 a1)) (l2:∀st,lenV false pc st=some (.int .i64 a2)) (l3:∀st,lenV false pd st=some (.int .i64 a3)) (hs:a1+a2+a3=n)
  (e1:Call Q 11 [.agg [.int .i64 1,.int .i64 1,.nilsl,.nilsl,.int .i64 0,.int .i64 0,.int .i64 1,.nilsl,.bool false,.int .i64 (-1),.int .i64 0,.nilsl,.nilsl,.sl 3 l,.nilsl]]=some (.tup [.bs b,.int .i64 0])) (e2:Call Q 14 [.bs b]=some (.tup [.agg [.int .i64 p0,.int .i64 p1,p2,p3,.int .i64 p4,.int .i64 p5,.int .i64 p6,p7,.bool p8,.int .i64 p9,.int .i64 pa,pb,pc,pd,pe],.int .i64 0])):am bL (RunL Q m7k0 m7b0 [.blk 0,.code aL] (bz n 2 l n))=some (.bool true):=by
 have hlt:decide ((n:Int)<(n:Int))=false:=by simp
 have q1:decide (256<(n:Int))=false:=by simp;omega
 have q2:decide ((n:Int)≤256)=true:=by simp;omega
 have q3:((a1:Int)+(a2:Int)+(a3:Int)==(n:Int))=true:=by rw[beq_iff_eq];omega
 have q4:IntKind.i64.wrap ((a1:Int)+a2)=(a1:Int)+a2:=by rw[fG]<;>omega
 have q5:IntKind.i64.wrap ((a1:Int)+a2+a3)=(a1:Int)+a2+a3:=by rw[fG]<;>omega
 unfold bz
 obtain⟨b',hb'⟩:∃b',b'=m7b0:=⟨_,rfl⟩
 rw[ah,show Item.lp m7k0 m7b0=Item.lp m7k0 b' by rw[hb']]
 apply ae;intro rhs hrhs
 simp(maxSteps:=4000000) (disch:=first|omega|exact aI (by(try simp only[bB.u,seval,cut,f2.a,f3.a,f7.a,fb.a,fc.a,fd.a,fe.a]);kernel_rfl)|decide) only[bB.u,seval,cut,m7b0,aL,bL,hlt,hl,q1,q2,q3,q4,q5,l1,l2,l3,e1,e2,ag,aj,f2.a,f3.a,f7.a,fb.a,fc.a,fd.a,fe.a]
 subst hrhs;rfl
theorem H8 (n:Nat) (hn:256<n) (h3:n≤300) (l:List MV) (hl:l.length=n) (f:Int) (e1:Call Q 11 [.agg [.int .i64 1,.int .i64 1,.nilsl,.nilsl,.int .i64 0,.int .i64 0,.int .i64 1,.nilsl,.bool false,.int .i64 (-1),.int .i64 0,.nilsl,.nilsl,.sl 3 l,.nilsl]]=some (.tup [.bs [],.int .i64 30])) (e2:Call Q 14 [.bs []]=some (.tup [.agg [.int .i64 0,.int .i64 0,.nilsl,.nilsl,.int .i64 0,.int .i64 0,.int .i64 0,.nilsl,.bool false,.int .i64 0,.int .i64 0,.nilsl,.nilsl,.nilsl,.nilsl],.int .i64 f])):am bL (RunL Q m7k0 m7b0 [.blk 0,.code aL] (bz n 2 l n))=some (.bool true):=by
 have hlt:decide ((n:Int)<(n:Int))=false:=by simp
 have q1:decide (256<(n:Int))=true:=by simp;omega
 unfold bz
 obtain⟨b',hb'⟩:∃b',b'=m7b0:=⟨_,rfl⟩
 rw[ah,show Item.lp m7k0 m7b0=Item.lp m7k0 b' by rw[hb']]
 apply ae;intro rhs hrhs
 simp(maxSteps:=4000000)(disch:=first|exact dz|fail)only[bB.u,seval,cut,m7b0,aL,bL,hlt,hl,q1,e1,e2]
 subst hrhs;rfl
theorem F5 (n:Nat) (hn:n≤300) (w:Int) (l:List MV) (hl:l.length=n) (hw:w<0∨4<w):am bL (RunL Q m7k0 m7b0 [.blk 0,.code aL] (bz n w l n))=some (.bool true):=by
 have hlt:decide ((n:Int)<(n:Int))=false:=by simp
 have w0:(w==0)=false:=by rw[beq_eq_false_iff_ne];omega
 have w1:(w==1)=false:=by rw[beq_eq_false_iff_ne];omega
 have w2:(w==2)=false:=by rw[beq_eq_false_iff_ne];omega
 have w3:(w==3)=false:=by rw[beq_eq_false_iff_ne];omega
 have w4:(w==4)=false:=by rw[beq_eq_false_iff_ne];omega
 unfold bz
 obtain⟨b',hb'⟩:∃b',b'=m7b0:=⟨_,rfl⟩
 rw[ah,show Item.lp m7k0 m7b0=Item.lp m7k0 b' by rw[hb']]
 apply ae;intro rhs hrhs
 simp(maxSteps:=4000000)(disch:=first|exact dz|fail)only[bB.u,seval,cut,m7b0,aL,bL,hlt,hl,w0,w1,w2,w3,w4]
 subst hrhs;rfl
theorem H9 (n:Nat) (hn:n≤256) (l:List MV) (hl:l.length=n) (b:List UInt8) (p0 p6:MV) (p1 p2 p3 p5:Int) (p4:MV) (f0:Fs p0) (f4:Fs p4) (f6:Fs p6) (l4:∀st,lenV false p4 st=some (.int .i64 n))
  (e1:Call Q 22 [.agg [.nilsl,.int .i64 0,.int .i64 0,.int .i64 0,.sl 3 (List.replicate n (.agg [.int .i64 0,.int .i64 0,.int .i64 0])),.int .i64 1,.nilsl]]=some (.tup [.bs b,.int .i64 0])) (e2:Call Q 23 [.bs b]=some (.tup [.agg [p0,.int .i64 p1,.int .i64 p2,.int .i64 p3,p4,.int .i64 p5,p6],.int .i64 0])):am bL (RunL Q m7k0 m7b0 [.blk 0,.code aL] (bz n 3 l n))=some (.bool true):=by
 have hlt:decide ((n:Int)<(n:Int))=false:=by simp
 have q1:decide (256<(n:Int))=false:=by simp;omega
 have q2:decide ((n:Int)≤256)=true:=by simp;omega
 have hl2:(List.replicate n (MV.agg [.int .i64 0,.int .i64 0,.int .i64 0])).length=n:=by simp
 unfold bz
 obtain⟨b',hb'⟩:∃b',b'=m7b0:=⟨_,rfl⟩
 rw[ah,show Item.lp m7k0 m7b0=Item.lp m7k0 b' by rw[hb']]
 apply ae;intro rhs hrhs
 simp(maxSteps:=4000000) (disch:=first|omega|exact aI (by(try simp only[bB.u,seval,cut,f0.a,f4.a,f6.a]);kernel_rfl)|decide) only[bB.u,seval,cut,m7b0,aL,bL,hlt,hl,hl2,q1,q2,l4,e1,e2,ag,aj,f0.a,f4.a,f6.a]
 subst hrhs;rfl
theorem H_ (n:Nat) (hn:256<n) (h3:n≤300) (l:List MV) (hl:l.length=n) (f:Int) (e1:Call Q 22 [.agg [.nilsl,.int .i64 0,.int .i64 0,.int .i64 0,.sl 3 (List.replicate n (.agg [.int .i64 0,.int .i64 0,.int .i64 0])),.int .i64 1,.nilsl]]=some (.tup [.bs [],.int .i64 30])) (e2:Call Q 23 [.bs []]=some (.tup [.agg [.nilsl,.int .i64 0,.int .i64 0,.int .i64 0,.nilsl,.int .i64 0,.nilsl],.int .i64 f])):am bL (RunL Q m7k0 m7b0 [.blk 0,.code aL] (bz n 3 l n))=some (.bool true):=by
 have hlt:decide ((n:Int)<(n:Int))=false:=by simp
 have q1:decide (256<(n:Int))=true:=by simp;omega
 have hl2:(List.replicate n (MV.agg [.int .i64 0,.int .i64 0,.int .i64 0])).length=n:=by simp
 unfold bz
 obtain⟨b',hb'⟩:∃b',b'=m7b0:=⟨_,rfl⟩
 rw[ah,show Item.lp m7k0 m7b0=Item.lp m7k0 b' by rw[hb']]
 apply ae;intro rhs hrhs
 simp(maxSteps:=4000000)(disch:=first|exact dz|fail)only[bB.u,seval,cut,m7b0,aL,bL,hlt,hl,hl2,q1,e1,e2]
 subst hrhs;rfl
theorem H' (n:Nat) (hn:n≤256) (l:List MV) (hl:l.length=n) (b:List UInt8) (p0 p2 p3 p5:MV) (p1 p4:Int) (f0:Fs p0) (f2:Fs p2) (f3:Fs p3) (f5:Fs p5) (l3:∀st,lenV false p3 st=some (.int .i64 n))
  (e1:Call Q 24 [.agg [.nilsl,.int .i64 1,.nilsl,.sl 3 l,.int .i64 1,.nilsl]]=some (.tup [.bs b,.int .i64 0])) (e2:Call Q 25 [.bs b]=some (.tup [.agg [p0,.int .i64 p1,p2,p3,.int .i64 p4,p5],.int .i64 0])):am bL (RunL Q m7k0 m7b0 [.blk 0,.code aL] (bz n 4 l n))=some (.bool true):=by
 have hlt:decide ((n:Int)<(n:Int))=false:=by simp
 have q1:decide (256<(n:Int))=false:=by simp;omega
 have q2:decide ((n:Int)≤256)=true:=by simp;omega
 unfold bz
 obtain⟨b',hb'⟩:∃b',b'=m7b0:=⟨_,rfl⟩
 rw[ah,show Item.lp m7k0 m7b0=Item.lp m7k0 b' by rw[hb']]
 apply ae;intro rhs hrhs
 simp(maxSteps:=4000000) (disch:=first|omega|exact aI (by(try simp only[bB.u,seval,cut,f0.a,f2.a,f3.a,f5.a]);kernel_rfl)|decide) only[bB.u,seval,cut,m7b0,aL,bL,hlt,hl,q1,q2,l3,e1,e2,ag,aj,f0.a,f2.a,f3.a,f5.a]
 subst hrhs;rfl
theorem Ia (n:Nat) (hn:256<n) (h3:n≤300) (l:List MV) (hl:l.length=n) (f:Int) (e1:Call Q 24 [.agg [.nilsl,.int .i64 1,.nilsl,.sl 3 l,.int .i64 1,.nilsl]]=some (.tup [.bs [],.int .i64 30])) (e2:Call Q 25 [.bs []]=some (.tup [.agg [.nilsl,.int .i64 0,.nilsl,.nilsl,.int .i64 0,.nilsl],.int .i64 f])):am bL (RunL Q m7k0 m7b0 [.blk 0,.code aL] (bz n 4 l n))=some (.bool true):=by
 have hlt:decide ((n:Int)<(n:Int))=false:=by simp
 have q1:decide (256<(n:Int))=true:=by simp;omega
 unfold bz
 obtain⟨b',hb'⟩:∃b',b'=m7b0:=⟨_,rfl⟩
 rw[ah,show Item.lp m7k0 m7b0=Item.lp m7k0 b' by rw[hb']]
 apply ae;intro rhs hrhs
 simp(maxSteps:=4000000)(disch:=first|exact dz|fail)only[bB.u,seval,cut,m7b0,aL,bL,hlt,hl,q1,e1,e2]
 subst hrhs;rfl
end Go.Mini
