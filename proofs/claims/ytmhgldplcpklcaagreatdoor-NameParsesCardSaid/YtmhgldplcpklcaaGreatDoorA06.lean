/- any value's DN and any DN's value are the document's: the law by that interpreter (part 6): what the program's functions answer, or plain laws of it; no conditions. -/
import Derived.Test.YtmhgldplcpklcaaGreatDoorA05
set_option linter.all false
namespace Go.Mini
open Go Go.Proofs.YtmhgldplcpklcaaGreatDoor
set_option maxRecDepth 100000
set_option maxHeartbeats 400000
theorem byts_bs:∀ps:List (List UInt8),byts (ps.map .bs)=some ps
 | []=>rfl
 |p::r=>by
  show(byts (r.map .bs)).map (p:: ·)=_
  rw[byts_bs r];rfl
theorem c_join (ps:List (List UInt8)) (h1:ps.flatten.length≤2^46) (h2:ps.length≤2^46):Call Q 74 [.sl 1 (ps.map .bs),.nilsl]=some (.bs ps.flatten):=by
 rw[Call_prim Q (g:=pBJoin) rfl]
 show(match byts (ps.map .bs)with|some xs=>if xs.flatten.length≤2^46∧xs.length≤2^46 then some (MV.bs xs.flatten)else none|none=>none)=_
 rw[byts_bs]
 exact if_pos ⟨h1,h2⟩
theorem shl6 (c:Int) (h0:0≤c) (h3:c≤3):shiftI .shl .i64 c 6=some (.int .i64 (64*c)):=by
 have:c=0∨c=1∨c=2∨c=3:=by omega
 rcases this with rfl|rfl|rfl|rfl<;>rfl
theorem or_nat (k n:Nat) (hk:k<8) (hn:n<32):IntKind.u8.wrap ((BitVec.ofInt IntKind.u8.bits ((32*k:Nat):Int)|||BitVec.ofInt IntKind.u8.bits (n:Int)).toNat:Int)=((32*k+n:Nat):Int):=by
 have h:=or8 (UInt8.ofNat (32*k)) (UInt8.ofNat n)
 have e1:(UInt8.ofNat (32*k)).toNat=32*k:=by simp;omega
 have e2:(UInt8.ofNat n).toNat=n:=by simp;omega
 rw[e1,e2]at h
 rw[h]
 have e3:(UInt8.ofNat (32*k)|||UInt8.ofNat n).toNat=32*k+n:=by
  rw[UInt8.toNat_or,e1,e2]
  have:=Nat.two_pow_add_eq_or_of_lt (i:=5) (b:=n) (by omega) k
  simpa using this.symm
 rw[e3]
theorem orB (x t:Int) (k:Nat) (hx:x=((32*k:Nat):Int)) (hk:k<8) (h0:0≤t) (h1:t<32):IntKind.u8.wrap ((BitVec.ofInt IntKind.u8.bits x|||BitVec.ofInt IntKind.u8.bits t).toNat:Int)=x+t:=by
 obtain⟨n,rfl⟩:=Int.eq_ofNat_of_zero_le h0
 subst hx
 rw[or_nat k n hk (by omega)]
 omega
variable {fb:Bool}
theorem tagB_len (c t:Int) (m:Bool):(tagB c t m).length≤4:=by
 unfold tagB
 split
 ·simp
 ·simp only[List.length_cons,List.length_append,List.length_nil]
  split<;>split<;>simp
theorem lenB_len (n:Nat):(lenB n).length≤4:=by
 unfold lenB
 split
 ·simp
 ·split
  ·simp
  ·split<;>simp
mutual
theorem wr_len (d:Nat):∀t:T,(wr d t).2.length≤sz t
 | .mk c t m b ks=>by
  have h:=wrs_len (d+1) ks
  have h1:=tagB_len c t m
  have h3:(if m then(wrs (d+1) ks).2.flatten else b).length≤b.length+szs ks:=by cases m<;>simp only[if_true,Bool.false_eq_true,if_false]<;>omega
  rw[wr,wrK,sz]
  generalize(if m then(wrs (d+1) ks).2.flatten else b)=body at h3 ⊢
  have h2:=lenB_len body.length
  repeat' split
  all_goals first|(simp only[List.length_nil];omega)|(simp only[List.length_append];omega)
theorem wrs_len (d:Nat):∀ts:List T,(wrs d ts).2.flatten.length≤szs ts
 | []=>by simp[wrs,szs]
 |k::r=>by
  have h1:=wr_len d k
  have h2:=wrs_len d r
  rw[wrs,szs]
  repeat' split
  all_goals simp only[List.flatten_nil,List.length_nil,List.flatten_cons,List.length_append]<;>omega
end
theorem wrs_cnt (d:Nat):∀ts:List T,(wrs d ts).1=0→(wrs d ts).2.length=ts.length
 | [],_=>rfl
 |k::r,h=>by
  rw[wrs]at h ⊢
  by_cases h1:(wr d k).1=0
  ·by_cases h2:(wrs d r).1=0
   ·simp[h1,h2,wrs_cnt d r h2]
   ·simp[h1,h2]at h
  ·simp[h1]at h
theorem c_write_deep (v:MV) (t:T) (hv:Wv fb v t) (d:Nat) (hd:d=17):Call Q 46 [v,.int .i64 (d:Nat)]=some (.tup [.bs (wr d t).2,.int .i64 (wr d t).1]):=by
 cases hv with
 | @mk _ c t m v k b ks hb hk=>
  subst hd
  rw[wr,wrK,if_pos (by omega)]
  rw[Call_fn Q (m:=m46) rfl rfl]
  cases hb<;>cases hk
  all_goals(
   apply hide;intro rhs hrhs
   simp(maxSteps:=4000000)(disch:=first|exact dz|fail)only[bB.u,seval,cut,m46]
   repeat'((with_reducible first|refine sp ?_ ?_|fail)<;>intro hx<;>(try simp only[bI.u]at hx)<;>(first|exact xz|(try simp(maxSteps:=4000000)(disch:=first|exact dz|fail)only[bB.u,seval,cut,hx,m46])))
   all_goals first|exact xz|(subst hrhs;rfl))
theorem c_write_range (v:MV) (c t:Int) (m:Bool) (b:List UInt8) (ks:List T) (hv:Wv fb v (.mk c t m b ks)) (d:Nat) (hd:d≤16) (hr:rangeB c t=true):Call Q 46 [v,.int .i64 (d:Nat)]=some (.tup [.bs [],.int .i64 21]):=by
 have h1:decide (16<(d:Int))=false:=by simp;omega
 unfold rangeB at hr
 simp only[Bool.or_eq_true,decide_eq_true_eq]at hr
 cases hv with
 |mk hb hk=>
  rw[Call_fn Q (m:=m46) rfl rfl]
  cases hb<;>cases hk
  all_goals(
   apply hide;intro rhs hrhs
   simp(maxSteps:=4000000)(disch:=first|exact dz|fail)only[bB.u,seval,cut,m46,h1]
   repeat'((with_reducible first|refine sp ?_ ?_|fail)<;>intro hx<;>(try simp only[bI.u]at hx)<;>(first|exact xz|(try simp(maxSteps:=4000000)(disch:=first|exact dz|fail)only[bB.u,seval,cut,hx,m46,h1])))
   all_goals first|exact xz|(subst hrhs;rfl))
theorem c_write_form (v:MV) (c t:Int) (m:Bool) (b:List UInt8) (ks:List T) (hv:Wv fb v (.mk c t m b ks)) (hbl:b.length≤2^47) (d:Nat) (hd:d≤16) (hr:rangeB c t=false) (e:Int) (he:formE c t m b=e) (h:e≠0):
  Call Q 46 [v,.int .i64 (d:Nat)]=some (.tup [.bs [],.int .i64 (if e=21 then 21 else 24)]):=by
 have h1:decide (16<(d:Int))=false:=by simp;omega
 unfold rangeB at hr
 simp only[Bool.or_eq_false_iff]at hr
 obtain⟨⟨⟨r1,r2⟩,r3⟩,r4⟩:=hr
 cases hv with
 | @mk _ _ _ _ v k _ _ hb hk=>
  have hf:=c_form c t m v k b hb (by cases hk<;>constructor) hbl
  rw[he]at hf
  rw[Call_fn Q (m:=m46) rfl rfl]
  cases hb<;>cases hk
  all_goals(
   apply hide;intro rhs hrhs
   simp(maxSteps:=4000000)(disch:=first|exact dz|fail)only[bB.u,seval,cut,m46,h1,r1,r2,r3,r4,hf]
   repeat'((with_reducible first|refine sp ?_ ?_|fail)<;>intro hx<;>(try simp only[bI.u]at hx)<;>(first|exact xz|(try simp(maxSteps:=4000000)(disch:=first|exact dz|fail)only[bB.u,seval,cut,hx,m46,h1,r1,r2,r3,r4,hf])))
   all_goals first|exact xz|(subst hrhs;(first|rfl|simp_all)))
theorem c_write_kids (v:MV) (c t:Int) (m:Bool) (b:List UInt8) (ks:List T) (hv:Wv fb v (.mk c t m b ks)) (hbl:b.length≤2^47) (d:Nat) (hd:d≤16) (hr:rangeB c t=false) (he:formE c t m b=0) (h:(m=true∧b≠[])∨(m=false∧ks≠[])) (hs:szs ks≤2^40):
  Call Q 46 [v,.int .i64 (d:Nat)]=some (.tup [.bs [],.int .i64 24]):=by
 have h1:decide (16<(d:Int))=false:=by simp;omega
 unfold rangeB at hr
 simp only[Bool.or_eq_false_iff]at hr
 obtain⟨⟨⟨r1,r2⟩,r3⟩,r4⟩:=hr
 have hkl:=szs_len ks
 cases hv with
 | @mk _ _ _ _ v k _ _ hb hk=>
  have hf:=c_form c t m v k b hb (by cases hk<;>constructor) hbl
  rw[he]at hf
  rw[Call_fn Q (m:=m46) rfl rfl]
  rcases h with⟨rfl,hne⟩|⟨rfl,hne⟩
  ·cases hb with
   |nil=>exact absurd rfl hne
   |bs b=>
    have hp:decide (0<(b.length:Int))=true:=by
     cases b with
     |nil=>exact absurd rfl hne
     |cons x r=>simp<;>omega
    cases hk
    all_goals(
     apply hide;intro rhs hrhs
     simp(maxSteps:=4000000)(disch:=first|exact dz|fail)only[bB.u,seval,cut,m46,h1,r1,r2,r3,r4,hf,hp]
     repeat'((with_reducible first|refine sp ?_ ?_|fail)<;>intro hx<;>(try simp only[bI.u]at hx)<;>(first|exact xz|(try simp(maxSteps:=4000000)(disch:=first|exact dz|fail)only[bB.u,seval,cut,hx,m46,h1,r1,r2,r3,r4,hf,hp])))
     all_goals first|exact xz|(subst hrhs;(first|rfl|simp_all)))
  ·cases hk with
   |nil=>exact absurd rfl hne
   | @sl _ l _ hl=>
    have hll:=hl.length
    have hp:decide (0<(l.length:Int))=true:=by
     rw[hll]
     cases ks with
     |nil=>exact absurd rfl hne
     |cons x r=>simp<;>omega
    cases hb
    all_goals(
     apply hide;intro rhs hrhs
     simp(maxSteps:=4000000)(disch:=first|exact dz|fail)only[bB.u,seval,cut,m46,h1,r1,r2,r3,r4,hf,hp]
     repeat'((with_reducible first|refine sp ?_ ?_|fail)<;>intro hx<;>(try simp only[bI.u]at hx)<;>(first|exact xz|(try simp(maxSteps:=4000000)(disch:=first|exact dz|fail)only[bB.u,seval,cut,hx,m46,h1,r1,r2,r3,r4,hf,hp])))
     all_goals first|exact xz|(subst hrhs;(first|rfl|simp_all)))
   | @fsl l _ hl=>
    have hll:=hl.length
    have hp:decide (0<(l.length:Int))=true:=by
     rw[hll]
     cases ks with
     |nil=>exact absurd rfl hne
     |cons x r=>simp<;>omega
    cases hb
    all_goals(
     apply hide;intro rhs hrhs
     simp(maxSteps:=4000000)(disch:=first|exact dz|fail)only[bB.u,seval,cut,m46,h1,r1,r2,r3,r4,hf,hp]
     repeat'((with_reducible first|refine sp ?_ ?_|fail)<;>intro hx<;>(try simp only[bI.u]at hx)<;>(first|exact xz|(try simp(maxSteps:=4000000)(disch:=first|exact dz|fail)only[bB.u,seval,cut,hx,m46,h1,r1,r2,r3,r4,hf,hp])))
     all_goals first|exact xz|(subst hrhs;(first|rfl|simp_all)))
variable {fb:Bool}
def R_w:List (Nat × Option (Bool × Nat) × PK):=[(4,none,PK.byt),(5,none,PK.other)]
def w_tail:MCode:=(.seq (sq [qd 90 0 2,qc 91 90,qx 92 .eql 91 0,qf 93 92,qR 94 1 2 93,qP 95 94 93,qV 96 .eql 95 17 93,qp 97 93 96,qf 98 97,qM 99 8 98,gT 100 (.call 73 [.t 99]) 98,gT 101 (.un .not (.t 100)) 98,qr 102 98 101] (.cond (.v 102) (sq [qn 4,qe 5 25] .ret) .skip)) (.seq (sq [qd 103 2 2,oV 104 (.load false 1 (.t 103))] (.cond (.v 104) (.rg [qa 105 8,oT 106 (.call 74 [.t 105,.c .nilsl]),qb 7 106]) .skip)) (sq [qd 107 0 2,qc 108 107,oT 109 (.bin .shl (.t 108) (.c (.int .u64 6))),qJ 110 109,qb 13 110] (.seq (sq [qd 111 2 2,oV 112 (.load false 1 (.t 111))] (.cond (.v 112) (.rg [qa 113 13,oT 114 (.bin .or (.t 113) (qu 32)),qb 13 114]) .skip)) (sq [qn 14] (.seq (sq [qd 115 1 2,qc 116 115,qC 117 .lss 116 31] (.cond (.v 117) (.rg [qa 118 13,qd 119 1 2,qc 120 119,qJ 121 120,qB 122 .or 118 121,oT 123 (.bslB 1 [(0,.t 122)]),qb 14 123]) (sq [qa 124 13,oT 125 (.bin .or (.t 124) (qu 31)),oT 126 (.bslB 1 [(0,.t 125)]),qb 14 126] (sq [qe 15 14] (.block 4 (.loop m46k1 m46b1)))))) (sq [qa 154 7,qj 155 154,qb 17 155] (.seq (.block 6 (sq [qa 168 17,qx 169 .lss 168 128,qb 167 169] (.cond (.v 167) (.rg [qa 170 14,qa 171 17,qJ 172 171,oT 173 (.bslB 1 [(0,.t 172)]),oT 174 (.app true 1 1 (.t 170) (.t 173)),qb 14 174]) (sq [qa 176 17,qx 177 .lss 176 256,qb 175 177] (.cond (.v 175) (.rg [qa 178 14,qa 179 17,qJ 180 179,oT 181 (.bslB 2 [(0,qu 129),(1,.t 180)]),oT 182 (.app true 1 1 (.t 178) (.t 181)),qb 14 182]) (sq [qa 184 17,qx 185 .lss 184 65536,qb 183 185] (.cond (.v 183) (.rg [qa 186 14,qa 187 17,oT 188 (.bin .shr (.t 187) (.c (.int .u64 8))),qJ 189 188,qa 190 17,qJ 191 190,oT 192 (.bslB 3 [(0,qu 130),(1,.t 189),(2,.t 191)]),oT 193 (.app true 1 1 (.t 186) (.t 192)),qb 14 193]) (.rg [qa 156 14,qa 157 17,oT 158 (.bin .shr (.t 157) (.c (.int .u64 16))),qJ 159 158,qa 160 17,oT 161 (.bin .shr (.t 160) (.c (.int .u64 8))),qJ 162 161,qa 163 17,qJ 164 163,oT 165 (.bslB 4 [(0,qu 131),(1,.t 159),(2,.t 162),(3,.t 164)]),oT 166 (.app true 1 1 (.t 156) (.t 165)),qb 14 166])))))))) (sq [qa 194 14,qa 195 7,oT 196 (.app true 1 1 (.t 194) (.t 195)),qb 4 196,qe 5 0] .ret)))))))))
def w_st (c t:Int) (m:Bool) (v k:MV) (d n:Nat) (ps:List (List UInt8)) (i:Nat):DS:=⟨[(1,.int .i64 (d:Nat)),(2,.ptr 0 0),(7,v),(8,.own (if i=0 then 2 else 1) i),(69,k),(70,.int .i64 (n:Nat)),(71,.int .i64 (i:Nat))],[],[(0,.cells [.int .i64 c,.int .i64 t,.bool m,v,k]),(if i=0 then 2 else 1,.el 1 (ps.map .bs) false)],3⟩
theorem w_loop (K:List Item) (c t:Int) (m:Bool) (v k:MV) (d:Nat) (kl:List MV) (ks:List T) (hv:(∃b,v= .bs b)∨v= .nilsl) (hk:(k= .sl 5 kl∨k= .fsl 5 kl)∧Wl fb kl ks∨ks=[]) (hs:szs ks≤2^30) (hd:d≤16)
  (ih:∀t v,t∈ks→Wv fb v t→Call Q 46 [v,.int .i64 ((d+1:Nat):Int)]=some (.tup [.bs (wr (d+1) t).2,.int .i64 (wr (d+1) t).1])):
  fin R_w (RunL Q m46k0 m46b0 K (w_st c t m v k d ks.length [] 0))=if(wrs (d+1) ks).1≠0 then some (.tup [.bs [],.int .i64 (wrs (d+1) ks).1])else fin R_w (RunL Q m46k0 m46b0 K (w_st c t m v k d ks.length (wrs (d+1) ks).2 ks.length)):=by
 have hd1:IntKind.i64.wrap ((d:Int)+1)=((d+1:Nat):Int):=by rw[w64 (by omega) (by omega)];rfl
 have hkl:=szs_len ks
 rcases hv with⟨b,rfl⟩|rfl
 all_goals(
 refine loopR ks (gW (d+1)) (fun ps i=>fin R_w (RunL Q m46k0 m46b0 K (w_st c t m _ k d ks.length ps i))) (fun e=>some (.tup [.bs [],.int .i64 e])) (fun ps i=>ps.length=i) ?_ [] rfl rfl ?_ ?_
 ·intro ps i x hI hg
  rcases hk with⟨hk2,hl⟩|rfl
  rotate_left
  ·simp at hg
  rcases hk2 with rfl|rfl
  all_goals(
  obtain⟨hi,hxx⟩:=List.getElem?_eq_some_iff.1 hg
  obtain⟨w,hw,hrv⟩:=hl.get hg
  have hlt:decide ((i:Int)<(ks.length:Int))=true:=by simp;omega
  have hcall:=ih x w (List.mem_of_getElem? hg) hrv
  rw[show((d+1:Nat):Int)=(d:Int)+1 from rfl]at hcall
  have hll:=hl.length
  have ha:(if i=0 then 2 else 1)≤2:=by split<;>omega
  have ha':1≤(if i=0 then 2 else 1):=by split<;>omega
  have hml:(ps.map MV.bs).length=i:=by simp[hI]
  have hsn:∀q:List UInt8,(ps++[q]).map MV.bs=ps.map .bs++[.bs q]:=by intro q;simp
  have hz:=szs_get hg
  have e9:((i+1:Nat):Int)=(i:Int)+1:=rfl
  cases hrv with
  | @mk _ c' t' m' v' k' b' ks' hb' hk'=>
  have hlv:∀st,lend v' st=some (v',st):=by cases hb'<;>intro st<;>rfl
  have hlk:∀st,lend k' st=some (k',st):=by cases hk'<;>intro st<;>rfl
  unfold gW
  generalize hwr:wr (d+1) (T.mk c' t' m' b' ks')=wv at hcall ⊢
  obtain⟨e,q⟩:=wv
  simp only at hcall ⊢
  unfold w_st
  generalize(if i=0 then 2 else 1)=a at ha ha' ⊢
  split
  ·rename_i hx
   have hxb:(e==0)=false:=by simpa using hx
   simp only[After]
   obtain⟨b',hb'⟩:∃b',b'=m46b0:=⟨_,rfl⟩
   rw[RunL_eq,show Item.lp m46k0 m46b0=Item.lp m46k0 b' by rw[hb']]
   apply hide;intro rhs hrhs
   simp(maxSteps:=4000000)(disch:=first|exact dz|fail)only[bB.u,seval,cut,m46b0,R_w,hlt,hw,hll,hml,hd1,hcall,hxb,hlv,hlk]
   repeat'((with_reducible first|refine sp ?_ ?_|fail)<;>intro hx<;>(try simp only[bI.u]at hx)<;>(first|exact xz|(try simp(maxSteps:=4000000)(disch:=first|exact dz|fail)only[bB.u,seval,cut,hx,m46b0,R_w,hlt,hw,hll,hml,hd1,hcall,hxb,hlv,hlk])))
   all_goals first|exact xz|(subst hrhs;rfl)
  ·rename_i hx
   have hx0:e=0:=by simpa using hx
   subst hx0
   refine⟨by simp[hI],?_⟩
   obtain⟨b',hb'⟩:∃b',b'=m46b0:=⟨_,rfl⟩
   rw[RunL_eq,show Item.lp m46k0 m46b0=Item.lp m46k0 b' by rw[hb']]
   apply hide;intro rhs hrhs
   simp(maxSteps:=4000000)(disch:=first|exact dz|fail)only[bB.u,seval,cut,m46b0,R_w,hlt,hw,hll,hml,hd1,hcall,hlv,hlk]
   repeat'((with_reducible first|refine sp ?_ ?_|fail)<;>intro hx<;>(try simp only[bI.u]at hx)<;>(first|exact xz|(try simp(maxSteps:=4000000)(disch:=first|exact dz|fail)only[bB.u,seval,cut,hx,m46b0,R_w,hlt,hw,hll,hml,hd1,hcall,hlv,hlk])))
   all_goals first|exact xz|(subst hrhs;(subst hb';refine(congrArg (fin _) (Run_lp Q _ _ _ _)).trans ?_;dsimp only;rw[hsn,if_neg (Nat.succ_ne_zero _),e9];exact congrArg (fin R_w) (RunL_canon (canon_cong kr kr kr)))))
 ·intro ps hf hI
  rw[wrs_fold]at hf
  by_cases h:(wrs (d+1) ks).1=0
  ·simp only[h,ne_eq,not_true_eq_false,if_false,List.nil_append,Sum.inl.injEq]at hf ⊢
   rw[hf]
  ·simp[h]at hf
 ·intro e hf
  rw[wrs_fold]at hf
  by_cases h:(wrs (d+1) ks).1=0
  ·simp[h]at hf
  ·simp only[ne_eq,h,not_false_eq_true,if_true,Sum.inr.injEq]at hf ⊢
   rw[hf])
end Go.Mini
namespace Go.Mini
open Go Go.Proofs.YtmhgldplcpklcaaGreatDoor
set_option maxRecDepth 100000
set_option maxHeartbeats 4000000
theorem shr64 {n b:Int} (h0:0≤b) (h1:b≤63):shiftI .shr .i64 n b=some (.int .i64 (n/2^b.toNat)):=by
 obtain⟨m,rfl⟩:=Int.eq_ofNat_of_zero_le h0
 unfold shiftI
 rw[if_neg (by omega)]
 simp only[Int.toNat_natCast]
 have e:min m IntKind.i64.bits=m:=by show min m 64=m;omega
 rw[e]
 congr 2
 have e2:((2:Int)^m)=((2^m:Nat):Int):=by simp
 rw[e2,Int.fdiv_eq_ediv_of_nonneg _ (Int.natCast_nonneg _)]
def wOut (c t:Int) (m:Bool) (b:List UInt8) (ps:List (List UInt8)):Int × List UInt8:=
 if c=0∧t=17∧sortedB ps=false then(25,[])else(0,tagB c t m++(lenB (if m then ps.flatten else b).length++(if m then ps.flatten else b)))
theorem wOut_ok {c t:Int} {m:Bool} {b:List UInt8} {ps:List (List UInt8)} (h:¬(c=0∧t=17∧sortedB ps=false)):wOut c t m b ps=(0,tagB c t m++(lenB (if m then ps.flatten else b).length++(if m then ps.flatten else b))):=if_neg h
theorem wOut_no {m:Bool} {t:Int} {b:List UInt8} {ps:List (List UInt8)} (h1:t=17) (h:sortedB ps=false):wOut 0 t m b ps=(25,[]):=if_pos ⟨rfl,h1,h⟩
theorem u8_wrap (x:Int):UInt8.ofNat (IntKind.u8.wrap x).toNat=UInt8.ofNat (x%256).toNat:=by
 have:IntKind.u8.wrap x=x%256:=by
  simp[IntKind.wrap,IntKind.bits,IntKind.signed]
 rw[this]
theorem u8m (x:Int) (h:0≤x):UInt8.ofNat (x%256).toNat=UInt8.ofNat x.toNat:=by
 apply UInt8.toNat_inj.1
 simp only[UInt8.toNat_ofNat']
 omega
theorem tnd1 (L:Nat):((L:Int)/256).toNat=L/256:=by omega
theorem tnd2 (L:Nat):((L:Int)/65536).toNat=L/65536:=by omega
theorem w_or0 (t:Int) (h0:0≤t) (h1:t<31):IntKind.u8.wrap ((BitVec.ofInt IntKind.u8.bits 0|||BitVec.ofInt IntKind.u8.bits t).toNat:Int)=0+t:=orB 0 t 0 rfl (by decide) h0 (by omega)
theorem w_or1 (t:Int) (h0:0≤t) (h1:t<31):IntKind.u8.wrap ((BitVec.ofInt IntKind.u8.bits 32|||BitVec.ofInt IntKind.u8.bits t).toNat:Int)=32+t:=orB 32 t 1 rfl (by decide) h0 (by omega)
theorem w_or2 (t:Int) (h0:0≤t) (h1:t<31):IntKind.u8.wrap ((BitVec.ofInt IntKind.u8.bits 64|||BitVec.ofInt IntKind.u8.bits t).toNat:Int)=64+t:=orB 64 t 2 rfl (by decide) h0 (by omega)
theorem w_or3 (t:Int) (h0:0≤t) (h1:t<31):IntKind.u8.wrap ((BitVec.ofInt IntKind.u8.bits 96|||BitVec.ofInt IntKind.u8.bits t).toNat:Int)=96+t:=orB 96 t 3 rfl (by decide) h0 (by omega)
theorem w_or4 (t:Int) (h0:0≤t) (h1:t<31):IntKind.u8.wrap ((BitVec.ofInt IntKind.u8.bits 128|||BitVec.ofInt IntKind.u8.bits t).toNat:Int)=128+t:=orB 128 t 4 rfl (by decide) h0 (by omega)
theorem w_or5 (t:Int) (h0:0≤t) (h1:t<31):IntKind.u8.wrap ((BitVec.ofInt IntKind.u8.bits 160|||BitVec.ofInt IntKind.u8.bits t).toNat:Int)=160+t:=orB 160 t 5 rfl (by decide) h0 (by omega)
theorem w_or6 (t:Int) (h0:0≤t) (h1:t<31):IntKind.u8.wrap ((BitVec.ofInt IntKind.u8.bits 192|||BitVec.ofInt IntKind.u8.bits t).toNat:Int)=192+t:=orB 192 t 6 rfl (by decide) h0 (by omega)
theorem w_or7 (t:Int) (h0:0≤t) (h1:t<31):IntKind.u8.wrap ((BitVec.ofInt IntKind.u8.bits 224|||BitVec.ofInt IntKind.u8.bits t).toNat:Int)=224+t:=orB 224 t 7 rfl (by decide) h0 (by omega)
theorem w_om0:IntKind.u8.wrap ((BitVec.ofInt IntKind.u8.bits 0|||BitVec.ofInt IntKind.u8.bits 32).toNat:Int)=32:=rfl
theorem w_on0:((BitVec.ofInt IntKind.u8.bits 0|||BitVec.ofInt IntKind.u8.bits 32).toNat:Int)=32:=rfl
theorem w_end_0_0 (t:Int) (v kk:MV) (b:List UInt8) (d n:Nat) (ps:List (List UInt8)) (hv:Rb v b) (hk:Rk kk) (ht:0≤t) (ht2:t<31) (hn:ps.length=n) (hn2:n≤2^30) (hp:ps.flatten.length≤2^30) (hb:b.length≤2^30):
  fin R_w (RunL Q m46k0 m46b0 [.blk 2,.code w_tail] (w_st 0 t false v kk d n ps n))=some (.tup [.bs (wOut 0 t false b ps).2,.int .i64 (wOut 0 t false b ps).1]):=by
 have hlt:decide ((n:Int)<(n:Int))=false:=by simp
 have hj:=c_join ps (by omega) (by omega)
 have hso:=c_sorted ps (by omega)
 have hml:(ps.map MV.bs).length=n:=by simp[hn]
 have ha:(if n=0 then 2 else 1)≤2:=by split<;>omega
 have ha':1≤(if n=0 then 2 else 1):=by split<;>omega
 unfold w_st
 generalize(if n=0 then 2 else 1)=a at ha ha' ⊢
 have t31:decide (t<31)=true:=by simpa using ht2
 have tn:(0+t).toNat=first 0 false+t.toNat:=by rw[show first 0 false=0 from rfl];omega
 have tg:tagB 0 t false=[UInt8.ofNat (first 0 false+t.toNat)]:=if_pos ht2
 cases hv<;>cases hk
 all_goals(
  obtain⟨b',hb'⟩:∃b',b'=m46b0:=⟨_,rfl⟩
  rw[RunL_eq,show Item.lp m46k0 m46b0=Item.lp m46k0 b' by rw[hb']]
  apply hide;intro rhs hrhs
  simp(maxSteps:=4000000)(disch:=first|exact dz|fail)only[bB.u,seval,cut,m46b0,R_w,w_tail,hlt,hj,hso,hml,t31,shl6,shr64,u8_wrap,Int.reducePow,w_om0,w_on0,w_or0,w_or1,w_or2,w_or3,w_or4,w_or5,w_or6,w_or7]
  repeat'((with_reducible first|refine sp ?_ ?_|fail)<;>intro hx<;>(try simp only[bI.u]at hx)<;>(first|exact xz|(try simp(maxSteps:=4000000)(disch:=first|exact dz|fail)only[bB.u,seval,cut,hx,m46b0,R_w,w_tail,hlt,hj,hso,hml,t31,shl6,shr64,u8_wrap,Int.reducePow,w_om0,w_on0,w_or0,w_or1,w_or2,w_or3,w_or4,w_or5,w_or6,w_or7])))
  all_goals first|exact xz|(subst hrhs;first|(rw[wOut_no (by assumption) (by assumption)])|(rw[wOut_ok (by rintro⟨h1,h2,h3⟩;simp_all),tg];(try(have e17:t=17:=by assumption;subst e17));simp only[if_true,Bool.false_eq_true,if_false,List.length_nil];unfold lenB;(repeat(first|rw[if_pos (by omega)]|rw[if_neg (by omega)]));((try simp(disch:=omega) only[u8m,tnd1,tnd2,Int.toNat_natCast,tn]);first|rfl|(rw[show t=17 by assumption];rfl)|(rw[show t=17 by omega];rfl)))))
theorem w_end_0_1 (t:Int) (v kk:MV) (b:List UInt8) (d n:Nat) (ps:List (List UInt8)) (hv:Rb v b) (hk:Rk kk) (ht:0≤t) (ht2:t<31) (hn:ps.length=n) (hn2:n≤2^30) (hp:ps.flatten.length≤2^30) (hb:b.length≤2^30):
  fin R_w (RunL Q m46k0 m46b0 [.blk 2,.code w_tail] (w_st 0 t true v kk d n ps n))=some (.tup [.bs (wOut 0 t true b ps).2,.int .i64 (wOut 0 t true b ps).1]):=by
 have hlt:decide ((n:Int)<(n:Int))=false:=by simp
 have hj:=c_join ps (by omega) (by omega)
 have hso:=c_sorted ps (by omega)
 have hml:(ps.map MV.bs).length=n:=by simp[hn]
 have ha:(if n=0 then 2 else 1)≤2:=by split<;>omega
 have ha':1≤(if n=0 then 2 else 1):=by split<;>omega
 unfold w_st
 generalize(if n=0 then 2 else 1)=a at ha ha' ⊢
 have t31:decide (t<31)=true:=by simpa using ht2
 have tn:(32+t).toNat=first 0 true+t.toNat:=by rw[show first 0 true=32 from rfl];omega
 have tg:tagB 0 t true=[UInt8.ofNat (first 0 true+t.toNat)]:=if_pos ht2
 cases hv<;>cases hk
 all_goals(
  obtain⟨b',hb'⟩:∃b',b'=m46b0:=⟨_,rfl⟩
  rw[RunL_eq,show Item.lp m46k0 m46b0=Item.lp m46k0 b' by rw[hb']]
  apply hide;intro rhs hrhs
  simp(maxSteps:=4000000)(disch:=first|exact dz|fail)only[bB.u,seval,cut,m46b0,R_w,w_tail,hlt,hj,hso,hml,t31,shl6,shr64,u8_wrap,Int.reducePow,w_om0,w_on0,w_or0,w_or1,w_or2,w_or3,w_or4,w_or5,w_or6,w_or7]
  repeat'((with_reducible first|refine sp ?_ ?_|fail)<;>intro hx<;>(try simp only[bI.u]at hx)<;>(first|exact xz|(try simp(maxSteps:=4000000)(disch:=first|exact dz|fail)only[bB.u,seval,cut,hx,m46b0,R_w,w_tail,hlt,hj,hso,hml,t31,shl6,shr64,u8_wrap,Int.reducePow,w_om0,w_on0,w_or0,w_or1,w_or2,w_or3,w_or4,w_or5,w_or6,w_or7])))
  all_goals first|exact xz|(subst hrhs;first|(rw[wOut_no (by assumption) (by assumption)])|(rw[wOut_ok (by rintro⟨h1,h2,h3⟩;simp_all),tg];(try(have e17:t=17:=by assumption;subst e17));simp only[if_true,Bool.false_eq_true,if_false,List.length_nil];unfold lenB;(repeat(first|rw[if_pos (by omega)]|rw[if_neg (by omega)]));((try simp(disch:=omega) only[u8m,tnd1,tnd2,Int.toNat_natCast,tn]);first|rfl|(rw[show t=17 by assumption];rfl)|(rw[show t=17 by omega];rfl)))))
theorem w_om1:IntKind.u8.wrap ((BitVec.ofInt IntKind.u8.bits 64|||BitVec.ofInt IntKind.u8.bits 32).toNat:Int)=96:=rfl
theorem w_on1:((BitVec.ofInt IntKind.u8.bits 64|||BitVec.ofInt IntKind.u8.bits 32).toNat:Int)=96:=rfl
theorem w_end_1_0 (t:Int) (v kk:MV) (b:List UInt8) (d n:Nat) (ps:List (List UInt8)) (hv:Rb v b) (hk:Rk kk) (ht:0≤t) (ht2:t<31) (hn:ps.length=n) (hn2:n≤2^30) (hp:ps.flatten.length≤2^30) (hb:b.length≤2^30):
  fin R_w (RunL Q m46k0 m46b0 [.blk 2,.code w_tail] (w_st 1 t false v kk d n ps n))=some (.tup [.bs (wOut 1 t false b ps).2,.int .i64 (wOut 1 t false b ps).1]):=by
 have hlt:decide ((n:Int)<(n:Int))=false:=by simp
 have hj:=c_join ps (by omega) (by omega)
 have hso:=c_sorted ps (by omega)
 have hml:(ps.map MV.bs).length=n:=by simp[hn]
 have ha:(if n=0 then 2 else 1)≤2:=by split<;>omega
 have ha':1≤(if n=0 then 2 else 1):=by split<;>omega
 unfold w_st
 generalize(if n=0 then 2 else 1)=a at ha ha' ⊢
 have t31:decide (t<31)=true:=by simpa using ht2
 have tn:(64+t).toNat=first 1 false+t.toNat:=by rw[show first 1 false=64 from rfl];omega
 have tg:tagB 1 t false=[UInt8.ofNat (first 1 false+t.toNat)]:=if_pos ht2
 cases hv<;>cases hk
 all_goals(
  obtain⟨b',hb'⟩:∃b',b'=m46b0:=⟨_,rfl⟩
  rw[RunL_eq,show Item.lp m46k0 m46b0=Item.lp m46k0 b' by rw[hb']]
  apply hide;intro rhs hrhs
  simp(maxSteps:=4000000)(disch:=first|exact dz|fail)only[bB.u,seval,cut,m46b0,R_w,w_tail,hlt,hj,hso,hml,t31,shl6,shr64,u8_wrap,Int.reducePow,w_om1,w_on1,w_or0,w_or1,w_or2,w_or3,w_or4,w_or5,w_or6,w_or7]
  repeat'((with_reducible first|refine sp ?_ ?_|fail)<;>intro hx<;>(try simp only[bI.u]at hx)<;>(first|exact xz|(try simp(maxSteps:=4000000)(disch:=first|exact dz|fail)only[bB.u,seval,cut,hx,m46b0,R_w,w_tail,hlt,hj,hso,hml,t31,shl6,shr64,u8_wrap,Int.reducePow,w_om1,w_on1,w_or0,w_or1,w_or2,w_or3,w_or4,w_or5,w_or6,w_or7])))
  all_goals first|exact xz|(subst hrhs;first|(rw[wOut_no (by assumption) (by assumption)])|(rw[wOut_ok (by rintro⟨h1,h2,h3⟩;simp_all),tg];(try(have e17:t=17:=by assumption;subst e17));simp only[if_true,Bool.false_eq_true,if_false,List.length_nil];unfold lenB;(repeat(first|rw[if_pos (by omega)]|rw[if_neg (by omega)]));((try simp(disch:=omega) only[u8m,tnd1,tnd2,Int.toNat_natCast,tn]);first|rfl|(rw[show t=17 by assumption];rfl)|(rw[show t=17 by omega];rfl)))))
theorem w_end_1_1 (t:Int) (v kk:MV) (b:List UInt8) (d n:Nat) (ps:List (List UInt8)) (hv:Rb v b) (hk:Rk kk) (ht:0≤t) (ht2:t<31) (hn:ps.length=n) (hn2:n≤2^30) (hp:ps.flatten.length≤2^30) (hb:b.length≤2^30):
  fin R_w (RunL Q m46k0 m46b0 [.blk 2,.code w_tail] (w_st 1 t true v kk d n ps n))=some (.tup [.bs (wOut 1 t true b ps).2,.int .i64 (wOut 1 t true b ps).1]):=by
 have hlt:decide ((n:Int)<(n:Int))=false:=by simp
 have hj:=c_join ps (by omega) (by omega)
 have hso:=c_sorted ps (by omega)
 have hml:(ps.map MV.bs).length=n:=by simp[hn]
 have ha:(if n=0 then 2 else 1)≤2:=by split<;>omega
 have ha':1≤(if n=0 then 2 else 1):=by split<;>omega
 unfold w_st
 generalize(if n=0 then 2 else 1)=a at ha ha' ⊢
 have t31:decide (t<31)=true:=by simpa using ht2
 have tn:(96+t).toNat=first 1 true+t.toNat:=by rw[show first 1 true=96 from rfl];omega
 have tg:tagB 1 t true=[UInt8.ofNat (first 1 true+t.toNat)]:=if_pos ht2
 cases hv<;>cases hk
 all_goals(
  obtain⟨b',hb'⟩:∃b',b'=m46b0:=⟨_,rfl⟩
  rw[RunL_eq,show Item.lp m46k0 m46b0=Item.lp m46k0 b' by rw[hb']]
  apply hide;intro rhs hrhs
  simp(maxSteps:=4000000)(disch:=first|exact dz|fail)only[bB.u,seval,cut,m46b0,R_w,w_tail,hlt,hj,hso,hml,t31,shl6,shr64,u8_wrap,Int.reducePow,w_om1,w_on1,w_or0,w_or1,w_or2,w_or3,w_or4,w_or5,w_or6,w_or7]
  repeat'((with_reducible first|refine sp ?_ ?_|fail)<;>intro hx<;>(try simp only[bI.u]at hx)<;>(first|exact xz|(try simp(maxSteps:=4000000)(disch:=first|exact dz|fail)only[bB.u,seval,cut,hx,m46b0,R_w,w_tail,hlt,hj,hso,hml,t31,shl6,shr64,u8_wrap,Int.reducePow,w_om1,w_on1,w_or0,w_or1,w_or2,w_or3,w_or4,w_or5,w_or6,w_or7])))
  all_goals first|exact xz|(subst hrhs;first|(rw[wOut_no (by assumption) (by assumption)])|(rw[wOut_ok (by rintro⟨h1,h2,h3⟩;simp_all),tg];(try(have e17:t=17:=by assumption;subst e17));simp only[if_true,Bool.false_eq_true,if_false,List.length_nil];unfold lenB;(repeat(first|rw[if_pos (by omega)]|rw[if_neg (by omega)]));((try simp(disch:=omega) only[u8m,tnd1,tnd2,Int.toNat_natCast,tn]);first|rfl|(rw[show t=17 by assumption];rfl)|(rw[show t=17 by omega];rfl)))))
theorem w_om2:IntKind.u8.wrap ((BitVec.ofInt IntKind.u8.bits 128|||BitVec.ofInt IntKind.u8.bits 32).toNat:Int)=160:=rfl
theorem w_on2:((BitVec.ofInt IntKind.u8.bits 128|||BitVec.ofInt IntKind.u8.bits 32).toNat:Int)=160:=rfl
theorem w_end_2_0 (t:Int) (v kk:MV) (b:List UInt8) (d n:Nat) (ps:List (List UInt8)) (hv:Rb v b) (hk:Rk kk) (ht:0≤t) (ht2:t<31) (hn:ps.length=n) (hn2:n≤2^30) (hp:ps.flatten.length≤2^30) (hb:b.length≤2^30):
  fin R_w (RunL Q m46k0 m46b0 [.blk 2,.code w_tail] (w_st 2 t false v kk d n ps n))=some (.tup [.bs (wOut 2 t false b ps).2,.int .i64 (wOut 2 t false b ps).1]):=by
 have hlt:decide ((n:Int)<(n:Int))=false:=by simp
 have hj:=c_join ps (by omega) (by omega)
 have hso:=c_sorted ps (by omega)
 have hml:(ps.map MV.bs).length=n:=by simp[hn]
 have ha:(if n=0 then 2 else 1)≤2:=by split<;>omega
 have ha':1≤(if n=0 then 2 else 1):=by split<;>omega
 unfold w_st
 generalize(if n=0 then 2 else 1)=a at ha ha' ⊢
 have t31:decide (t<31)=true:=by simpa using ht2
 have tn:(128+t).toNat=first 2 false+t.toNat:=by rw[show first 2 false=128 from rfl];omega
 have tg:tagB 2 t false=[UInt8.ofNat (first 2 false+t.toNat)]:=if_pos ht2
 cases hv<;>cases hk
 all_goals(
  obtain⟨b',hb'⟩:∃b',b'=m46b0:=⟨_,rfl⟩
  rw[RunL_eq,show Item.lp m46k0 m46b0=Item.lp m46k0 b' by rw[hb']]
  apply hide;intro rhs hrhs
  simp(maxSteps:=4000000)(disch:=first|exact dz|fail)only[bB.u,seval,cut,m46b0,R_w,w_tail,hlt,hj,hso,hml,t31,shl6,shr64,u8_wrap,Int.reducePow,w_om2,w_on2,w_or0,w_or1,w_or2,w_or3,w_or4,w_or5,w_or6,w_or7]
  repeat'((with_reducible first|refine sp ?_ ?_|fail)<;>intro hx<;>(try simp only[bI.u]at hx)<;>(first|exact xz|(try simp(maxSteps:=4000000)(disch:=first|exact dz|fail)only[bB.u,seval,cut,hx,m46b0,R_w,w_tail,hlt,hj,hso,hml,t31,shl6,shr64,u8_wrap,Int.reducePow,w_om2,w_on2,w_or0,w_or1,w_or2,w_or3,w_or4,w_or5,w_or6,w_or7])))
  all_goals first|exact xz|(subst hrhs;first|(rw[wOut_no (by assumption) (by assumption)])|(rw[wOut_ok (by rintro⟨h1,h2,h3⟩;simp_all),tg];(try(have e17:t=17:=by assumption;subst e17));simp only[if_true,Bool.false_eq_true,if_false,List.length_nil];unfold lenB;(repeat(first|rw[if_pos (by omega)]|rw[if_neg (by omega)]));((try simp(disch:=omega) only[u8m,tnd1,tnd2,Int.toNat_natCast,tn]);first|rfl|(rw[show t=17 by assumption];rfl)|(rw[show t=17 by omega];rfl)))))
theorem w_end_2_1 (t:Int) (v kk:MV) (b:List UInt8) (d n:Nat) (ps:List (List UInt8)) (hv:Rb v b) (hk:Rk kk) (ht:0≤t) (ht2:t<31) (hn:ps.length=n) (hn2:n≤2^30) (hp:ps.flatten.length≤2^30) (hb:b.length≤2^30):
  fin R_w (RunL Q m46k0 m46b0 [.blk 2,.code w_tail] (w_st 2 t true v kk d n ps n))=some (.tup [.bs (wOut 2 t true b ps).2,.int .i64 (wOut 2 t true b ps).1]):=by
 have hlt:decide ((n:Int)<(n:Int))=false:=by simp
 have hj:=c_join ps (by omega) (by omega)
 have hso:=c_sorted ps (by omega)
 have hml:(ps.map MV.bs).length=n:=by simp[hn]
 have ha:(if n=0 then 2 else 1)≤2:=by split<;>omega
 have ha':1≤(if n=0 then 2 else 1):=by split<;>omega
 unfold w_st
 generalize(if n=0 then 2 else 1)=a at ha ha' ⊢
 have t31:decide (t<31)=true:=by simpa using ht2
 have tn:(160+t).toNat=first 2 true+t.toNat:=by rw[show first 2 true=160 from rfl];omega
 have tg:tagB 2 t true=[UInt8.ofNat (first 2 true+t.toNat)]:=if_pos ht2
 cases hv<;>cases hk
 all_goals(
  obtain⟨b',hb'⟩:∃b',b'=m46b0:=⟨_,rfl⟩
  rw[RunL_eq,show Item.lp m46k0 m46b0=Item.lp m46k0 b' by rw[hb']]
  apply hide;intro rhs hrhs
  simp(maxSteps:=4000000)(disch:=first|exact dz|fail)only[bB.u,seval,cut,m46b0,R_w,w_tail,hlt,hj,hso,hml,t31,shl6,shr64,u8_wrap,Int.reducePow,w_om2,w_on2,w_or0,w_or1,w_or2,w_or3,w_or4,w_or5,w_or6,w_or7]
  repeat'((with_reducible first|refine sp ?_ ?_|fail)<;>intro hx<;>(try simp only[bI.u]at hx)<;>(first|exact xz|(try simp(maxSteps:=4000000)(disch:=first|exact dz|fail)only[bB.u,seval,cut,hx,m46b0,R_w,w_tail,hlt,hj,hso,hml,t31,shl6,shr64,u8_wrap,Int.reducePow,w_om2,w_on2,w_or0,w_or1,w_or2,w_or3,w_or4,w_or5,w_or6,w_or7])))
  all_goals first|exact xz|(subst hrhs;first|(rw[wOut_no (by assumption) (by assumption)])|(rw[wOut_ok (by rintro⟨h1,h2,h3⟩;simp_all),tg];(try(have e17:t=17:=by assumption;subst e17));simp only[if_true,Bool.false_eq_true,if_false,List.length_nil];unfold lenB;(repeat(first|rw[if_pos (by omega)]|rw[if_neg (by omega)]));((try simp(disch:=omega) only[u8m,tnd1,tnd2,Int.toNat_natCast,tn]);first|rfl|(rw[show t=17 by assumption];rfl)|(rw[show t=17 by omega];rfl)))))
theorem w_om3:IntKind.u8.wrap ((BitVec.ofInt IntKind.u8.bits 192|||BitVec.ofInt IntKind.u8.bits 32).toNat:Int)=224:=rfl
theorem w_on3:((BitVec.ofInt IntKind.u8.bits 192|||BitVec.ofInt IntKind.u8.bits 32).toNat:Int)=224:=rfl
theorem w_end_3_0 (t:Int) (v kk:MV) (b:List UInt8) (d n:Nat) (ps:List (List UInt8)) (hv:Rb v b) (hk:Rk kk) (ht:0≤t) (ht2:t<31) (hn:ps.length=n) (hn2:n≤2^30) (hp:ps.flatten.length≤2^30) (hb:b.length≤2^30):
  fin R_w (RunL Q m46k0 m46b0 [.blk 2,.code w_tail] (w_st 3 t false v kk d n ps n))=some (.tup [.bs (wOut 3 t false b ps).2,.int .i64 (wOut 3 t false b ps).1]):=by
 have hlt:decide ((n:Int)<(n:Int))=false:=by simp
 have hj:=c_join ps (by omega) (by omega)
 have hso:=c_sorted ps (by omega)
 have hml:(ps.map MV.bs).length=n:=by simp[hn]
 have ha:(if n=0 then 2 else 1)≤2:=by split<;>omega
 have ha':1≤(if n=0 then 2 else 1):=by split<;>omega
 unfold w_st
 generalize(if n=0 then 2 else 1)=a at ha ha' ⊢
 have t31:decide (t<31)=true:=by simpa using ht2
 have tn:(192+t).toNat=first 3 false+t.toNat:=by rw[show first 3 false=192 from rfl];omega
 have tg:tagB 3 t false=[UInt8.ofNat (first 3 false+t.toNat)]:=if_pos ht2
 cases hv<;>cases hk
 all_goals(
  obtain⟨b',hb'⟩:∃b',b'=m46b0:=⟨_,rfl⟩
  rw[RunL_eq,show Item.lp m46k0 m46b0=Item.lp m46k0 b' by rw[hb']]
  apply hide;intro rhs hrhs
  simp(maxSteps:=4000000)(disch:=first|exact dz|fail)only[bB.u,seval,cut,m46b0,R_w,w_tail,hlt,hj,hso,hml,t31,shl6,shr64,u8_wrap,Int.reducePow,w_om3,w_on3,w_or0,w_or1,w_or2,w_or3,w_or4,w_or5,w_or6,w_or7]
  repeat'((with_reducible first|refine sp ?_ ?_|fail)<;>intro hx<;>(try simp only[bI.u]at hx)<;>(first|exact xz|(try simp(maxSteps:=4000000)(disch:=first|exact dz|fail)only[bB.u,seval,cut,hx,m46b0,R_w,w_tail,hlt,hj,hso,hml,t31,shl6,shr64,u8_wrap,Int.reducePow,w_om3,w_on3,w_or0,w_or1,w_or2,w_or3,w_or4,w_or5,w_or6,w_or7])))
  all_goals first|exact xz|(subst hrhs;first|(rw[wOut_no (by assumption) (by assumption)])|(rw[wOut_ok (by rintro⟨h1,h2,h3⟩;simp_all),tg];(try(have e17:t=17:=by assumption;subst e17));simp only[if_true,Bool.false_eq_true,if_false,List.length_nil];unfold lenB;(repeat(first|rw[if_pos (by omega)]|rw[if_neg (by omega)]));((try simp(disch:=omega) only[u8m,tnd1,tnd2,Int.toNat_natCast,tn]);first|rfl|(rw[show t=17 by assumption];rfl)|(rw[show t=17 by omega];rfl)))))
theorem w_end_3_1 (t:Int) (v kk:MV) (b:List UInt8) (d n:Nat) (ps:List (List UInt8)) (hv:Rb v b) (hk:Rk kk) (ht:0≤t) (ht2:t<31) (hn:ps.length=n) (hn2:n≤2^30) (hp:ps.flatten.length≤2^30) (hb:b.length≤2^30):
  fin R_w (RunL Q m46k0 m46b0 [.blk 2,.code w_tail] (w_st 3 t true v kk d n ps n))=some (.tup [.bs (wOut 3 t true b ps).2,.int .i64 (wOut 3 t true b ps).1]):=by
 have hlt:decide ((n:Int)<(n:Int))=false:=by simp
 have hj:=c_join ps (by omega) (by omega)
 have hso:=c_sorted ps (by omega)
 have hml:(ps.map MV.bs).length=n:=by simp[hn]
 have ha:(if n=0 then 2 else 1)≤2:=by split<;>omega
 have ha':1≤(if n=0 then 2 else 1):=by split<;>omega
 unfold w_st
 generalize(if n=0 then 2 else 1)=a at ha ha' ⊢
 have t31:decide (t<31)=true:=by simpa using ht2
 have tn:(224+t).toNat=first 3 true+t.toNat:=by rw[show first 3 true=224 from rfl];omega
 have tg:tagB 3 t true=[UInt8.ofNat (first 3 true+t.toNat)]:=if_pos ht2
 cases hv<;>cases hk
 all_goals(
  obtain⟨b',hb'⟩:∃b',b'=m46b0:=⟨_,rfl⟩
  rw[RunL_eq,show Item.lp m46k0 m46b0=Item.lp m46k0 b' by rw[hb']]
  apply hide;intro rhs hrhs
  simp(maxSteps:=4000000)(disch:=first|exact dz|fail)only[bB.u,seval,cut,m46b0,R_w,w_tail,hlt,hj,hso,hml,t31,shl6,shr64,u8_wrap,Int.reducePow,w_om3,w_on3,w_or0,w_or1,w_or2,w_or3,w_or4,w_or5,w_or6,w_or7]
  repeat'((with_reducible first|refine sp ?_ ?_|fail)<;>intro hx<;>(try simp only[bI.u]at hx)<;>(first|exact xz|(try simp(maxSteps:=4000000)(disch:=first|exact dz|fail)only[bB.u,seval,cut,hx,m46b0,R_w,w_tail,hlt,hj,hso,hml,t31,shl6,shr64,u8_wrap,Int.reducePow,w_om3,w_on3,w_or0,w_or1,w_or2,w_or3,w_or4,w_or5,w_or6,w_or7])))
  all_goals first|exact xz|(subst hrhs;first|(rw[wOut_no (by assumption) (by assumption)])|(rw[wOut_ok (by rintro⟨h1,h2,h3⟩;simp_all),tg];(try(have e17:t=17:=by assumption;subst e17));simp only[if_true,Bool.false_eq_true,if_false,List.length_nil];unfold lenB;(repeat(first|rw[if_pos (by omega)]|rw[if_neg (by omega)]));((try simp(disch:=omega) only[u8m,tnd1,tnd2,Int.toNat_natCast,tn]);first|rfl|(rw[show t=17 by assumption];rfl)|(rw[show t=17 by omega];rfl)))))
end Go.Mini
namespace Go.Mini
open Go Go.Proofs.YtmhgldplcpklcaaGreatDoor
set_option maxRecDepth 100000
set_option maxHeartbeats 400000
variable {fb:Bool}
theorem w_end (c t:Int) (m:Bool) (v kk:MV) (b:List UInt8) (d n:Nat) (ps:List (List UInt8)) (hv:Rb v b) (hk:Rk kk) (h0:0≤c) (h3:c≤3) (ht:0≤t) (ht2:t<31) (hn:ps.length=n) (hn2:n≤2^30) (hp:ps.flatten.length≤2^30) (hb:b.length≤2^30):
  fin R_w (RunL Q m46k0 m46b0 [.blk 2,.code w_tail] (w_st c t m v kk d n ps n))=some (.tup [.bs (wOut c t m b ps).2,.int .i64 (wOut c t m b ps).1]):=by
 have hc:c=0∨c=1∨c=2∨c=3:=by omega
 rcases hc with rfl|rfl|rfl|rfl<;>cases m
 ·exact w_end_0_0 t v kk b d n ps hv hk ht ht2 hn hn2 hp hb
 ·exact w_end_0_1 t v kk b d n ps hv hk ht ht2 hn hn2 hp hb
 ·exact w_end_1_0 t v kk b d n ps hv hk ht ht2 hn hn2 hp hb
 ·exact w_end_1_1 t v kk b d n ps hv hk ht ht2 hn hn2 hp hb
 ·exact w_end_2_0 t v kk b d n ps hv hk ht ht2 hn hn2 hp hb
 ·exact w_end_2_1 t v kk b d n ps hv hk ht ht2 hn hn2 hp hb
 ·exact w_end_3_0 t v kk b d n ps hv hk ht ht2 hn hn2 hp hb
 ·exact w_end_3_1 t v kk b d n ps hv hk ht ht2 hn hn2 hp hb
mutual
def lowD:T→Prop
 | .mk _ t _ _ ks=>t<31∧lowsD ks
def lowsD:List T→Prop
 | []=>True
 |k::r=>lowD k∧lowsD r
end
theorem szs_mem {ts:List T} {t:T} (h:t∈ts):sz t≤szs ts:=by
 obtain⟨i,hi⟩:=List.getElem?_of_mem h
 exact szs_get hi
theorem Rb.form {v:MV} {b:List UInt8} (h:Rb v b):(∃b,v= .bs b)∨v= .nilsl:=by
 cases h
 ·exact .inl ⟨_,rfl⟩
 ·exact .inr rfl
end Go.Mini
