/- any value's DN and any DN's value are the document's: the law by that interpreter (part 14): what the program's functions answer, or plain laws of it; no conditions. -/
import Derived.Test.YtmhgldplcpklcaaGreatDoorA13
import Derived.Test.YtmhgldplcpklcaaGreatDoorA08
import Derived.Test.YtmhgldplcpklcaaGreatDoorA09
set_option linter.all false
namespace Go.Mini.Nm
open Go Go.Mini Go.Proofs.YtmhgldplcpklcaaGreatDoor
set_option maxRecDepth 100000
set_option maxHeartbeats 8000000
theorem c_dig:∀(k n:Nat),k≤18→n<10^(k+1)→Call Q 50 [.int .i64 (n:Nat)]=some (.str (decF k n))
 | 0,n,hk,h=>by
  have h1:decide ((n:Int)<10)=true:=by simp;omega
  have e1:UInt8.ofNat (48+(n:Int)).toNat=UInt8.ofNat (48+n):=by congr 1
  rw[decF,Call_fn Q (m:=m50) rfl rfl]
  apply hide;intro rhs hrhs
  simp(maxSteps:=4000000)(disch:=first|exact dz|fail)only[bB.u,seval,cut,m50,h1,u8_wrap,u8m,e1]
  repeat'((with_reducible first|refine sp ?_ ?_|fail)<;>intro hx<;>(try simp only[bI.u]at hx)<;>(first|exact xz|(try simp(maxSteps:=4000000)(disch:=first|exact dz|fail)only[bB.u,seval,cut,hx,m50,h1,u8_wrap,u8m,e1])))
  all_goals first|exact xz|(subst hrhs;rfl)
 |k+1,n,hk,h=>by
  have hp:(10:Nat)^(k+1+1)≤10^19:=Nat.pow_le_pow_right (by omega) (by omega)
  unfold decF
  by_cases hn:n<10
  ·have h1:decide ((n:Int)<10)=true:=by simp;omega
   have e1:UInt8.ofNat (48+(n:Int)).toNat=UInt8.ofNat (48+n):=by congr 1
   rw[if_pos hn,Call_fn Q (m:=m50) rfl rfl]
   apply hide;intro rhs hrhs
   simp(maxSteps:=4000000)(disch:=first|exact dz|fail)only[bB.u,seval,cut,m50,h1,u8_wrap,u8m,e1]
   repeat'((with_reducible first|refine sp ?_ ?_|fail)<;>intro hx<;>(try simp only[bI.u]at hx)<;>(first|exact xz|(try simp(maxSteps:=4000000)(disch:=first|exact dz|fail)only[bB.u,seval,cut,hx,m50,h1,u8_wrap,u8m,e1])))
   all_goals first|exact xz|(subst hrhs;rfl)
  ·have h1:decide ((n:Int)<10)=false:=by simp;omega
   have e1:UInt8.ofNat (48+(n:Int)%10).toNat=UInt8.ofNat (48+n%10):=by congr 1<;>omega
   have hc:=c_dig k (n/10) (by omega) (by rw[Nat.pow_succ]at h;omega)
   rw[show((n/10:Nat):Int)=(n:Int)/10 by omega]at hc
   have hl:=decF_len k (n/10)
   generalize decF k (n/10)=s at *
   rw[if_neg hn,Call_fn Q (m:=m50) rfl rfl]
   apply hide;intro rhs hrhs
   simp(maxSteps:=4000000)(disch:=first|exact dz|fail)only[bB.u,seval,cut,m50,h1,u8_wrap,u8m,e1,hc]
   repeat'((with_reducible first|refine sp ?_ ?_|fail)<;>intro hx<;>(try simp only[bI.u]at hx)<;>(first|exact xz|(try simp(maxSteps:=4000000)(disch:=first|exact dz|fail)only[bB.u,seval,cut,hx,m50,h1,u8_wrap,u8m,e1,hc])))
   all_goals first|exact xz|(subst hrhs;rfl)
theorem c_Digits (n:Int) (h0:0≤n) (h1:n<10^18):Call Q 50 [.int .i64 n]=some (.str (itoaL n)):=by
 obtain⟨m,rfl⟩:=Int.eq_ofNat_of_zero_le h0
 have hm:m<10^18:=by exact_mod_cast h1
 have e:itoaL (m:Int)=decF 17 m:=by
  unfold itoaL
  rw[if_neg (by omega),Int.toNat_natCast,decF_eq 19 m (by omega),decF_eq 17 m hm]
 rw[e]
 exact c_dig 17 m (by omega) hm
theorem join_two (a b:List UInt8):Lib.join [a,b] [46]=a++[46]++b:=by
 rw[Lib.join_cons];simp[Lib.joinTail]
theorem join_snoc (ps:List (List UInt8)) (x:List UInt8) (h:ps≠[]):Lib.join (ps++[x]) [46]=Lib.join ps [46]++[46]++x:=by
 cases ps with
 |nil=>exact absurd rfl h
 |cons p r=>rw[List.cons_append,Lib.join_cons,Lib.join_cons];simp[Lib.joinTail]
def R_or:List (Nat × Option (Bool × Nat) × PK):=[(2,none,.other),(3,none,.other)]
def or_tail:MCode:=(sq [qa 66 4,qa 67 6,qx 68 .leq 67 20,qb 2 66,qb 3 68] .ret)
def or_st (cs:List MV) (s:List UInt8) (n:Int) (cnt:Nat) (i:Nat):DS:=⟨[(1,.ptr 0 0),(4,.str s),(5,.int .i64 n),(6,.int .i64 (cnt:Nat)),(7,.int .i64 (i:Nat))],[],[(0,.cells cs)],2⟩
theorem or_step (K:List Item) (c t:Int) (m:Bool) (k:MV) (hk:Fs k) (b:List UInt8) (hb:b.length<2^30) (s:List (List UInt8) × Int) (i:Nat) (x:UInt8) (hI:s.1.length≤2*i∧0≤s.2∧s.2<1099511627776∧∀p∈s.1,p.length≤21) (hg:b[i]? = some x):
  After (fun s i=>s.1.length≤2*i∧0≤s.2∧s.2<1099511627776∧∀p∈s.1,p.length≤21) (fun s i=>fin R_or (RunL Q m25k0 m25b0 K (or_st [.int .i64 c,.int .i64 t,.bool m,.bs b,k] (Lib.join s.1 [46]) s.2 s.1.length i))) (fun _=>some (.tup [.str [],.bool false]))
   (fin R_or (RunL Q m25k0 m25b0 K (or_st [.int .i64 c,.int .i64 t,.bool m,.bs b,k] (Lib.join s.1 [46]) s.2 s.1.length i))) (i+1) (gO s x):=by
 obtain⟨ps,n⟩:=s
 simp only at hI
 obtain⟨hI,hn0,hn1,hp⟩:=hI
 obtain⟨hi,hxx⟩:=List.getElem?_eq_some_iff.1 hg
 have hlt:decide ((i:Int)<(b.length:Int))=true:=by simp;omega
 have hc:=x.toNat_lt
 have e9:((i+1:Nat):Int)=(i:Int)+1:=rfl
 have hjl:=join_small ps hp
 unfold gO
 simp only
 rw[Int.mul_comm n 128]
 generalize hN:128*n+(x.toNat:Int)%128=N
 have hN0:0≤N:=by omega
 have hN1:N<1125899906842624:=by omega
 by_cases h1:1099511627776≤N
 ·rw[if_pos h1]
  have h1':decide (1099511627776≤N)=true:=by simpa using h1
  simp only[After]
  unfold or_st
  obtain⟨b',hb'⟩:∃b',b'=m25b0:=⟨_,rfl⟩
  rw[RunL_eq,show Item.lp m25k0 m25b0=Item.lp m25k0 b' by rw[hb']]
  apply hide;intro rhs hrhs
  simp(maxSteps:=4000000) (disch:=first|omega|exact ok_of (by(try simp only[bB.u,seval,cut,hk.a]);kernel_rfl)|decide) only[bB.u,seval,cut,m25b0,R_or,hlt,hg,hN,h1',Run_nil,reach,hk.a]
  repeat'((with_reducible first|refine sp ?_ ?_|fail)<;>intro hx<;>(try simp only[bI.u]at hx)<;>(first|exact xz|(try simp(maxSteps:=4000000) (disch:=first|omega|exact ok_of (by(try simp only[bB.u,seval,cut,hk.a]);kernel_rfl)|decide) only[bB.u,seval,cut,hx,m25b0,R_or,hlt,hg,hN,h1',Run_nil,reach,hk.a])))
  all_goals first|exact xz|(subst hrhs;rfl)
 rw[if_neg h1]
 have h1':decide (1099511627776≤N)=false:=by simpa using h1
 by_cases h2:128≤x.toNat
 ·rw[if_pos h2]
  have h2':decide (128≤(x.toNat:Int))=true:=by simp;omega
  refine⟨by simp only;exact⟨by omega,by omega,by omega,hp⟩,?_⟩
  simp only
  unfold or_st
  rw[e9]
  obtain⟨b',hb'⟩:∃b',b'=m25b0:=⟨_,rfl⟩
  rw[RunL_eq,show Item.lp m25k0 m25b0=Item.lp m25k0 b' by rw[hb']]
  apply hide;intro rhs hrhs
  simp(maxSteps:=4000000) (disch:=first|omega|exact ok_of (by(try simp only[bB.u,seval,cut,hk.a]);kernel_rfl)|decide) only[bB.u,seval,cut,m25b0,R_or,hlt,hg,hN,h1',h2',Run_nil,reach,hk.a]
  repeat'((with_reducible first|refine sp ?_ ?_|fail)<;>intro hx<;>(try simp only[bI.u]at hx)<;>(first|exact xz|(try simp(maxSteps:=4000000) (disch:=first|omega|exact ok_of (by(try simp only[bB.u,seval,cut,hk.a]);kernel_rfl)|decide) only[bB.u,seval,cut,hx,m25b0,R_or,hlt,hg,hN,h1',h2',Run_nil,reach,hk.a])))
  all_goals first|exact xz|(subst hrhs;(subst hb';refine(congrArg (fin _) (Run_lp Q _ _ _ _)).trans ?_;exact congrArg (fin R_or) (RunL_canon (canon_cong (by simp only[bA.u,seval,canon,liveNames,inhOf,keptNames,reach,nub,has,inner,newObjs,keepV,renObj,m25k0,hk.a]<;>rfl) (by simp only[bA.u,seval,canon,liveNames,inhOf,keptNames,reach,nub,has,inner,newObjs,keepV,renObj,m25k0,hk.a]<;>rfl) (by simp only[bA.u,seval,canon,liveNames,inhOf,keptNames,reach,nub,has,inner,newObjs,keepV,renObj,m25k0,hk.a]<;>rfl)))))
 rw[if_neg h2]
 have h2':decide (128≤(x.toNat:Int))=false:=by simp;omega
 by_cases h3:ps=[]
 ·subst h3
  rw[if_pos rfl]
  refine⟨by simp;exact⟨by omega,itoaL_len _,itoaL_len _⟩,?_⟩
  simp only[join_two,Lib.join_nil,List.length_cons,List.length_nil]
  unfold or_st
  rw[e9]
  by_cases h4:2<N/40
  ·rw[show min (N/40) 2=2 by omega]
   have h4':decide (2<N/40)=true:=by simpa using h4
   have k1:=c_Digits 2 (by omega) (by omega)
   have k2:=c_Digits (N-40*2) (by omega) (by omega)
   rw[show N-40*2=N-80 by omega]at k2 ⊢
   have l1:=itoaL_len 2
   have l2:=itoaL_len (N-80)
   generalize itoaL 2=s1 at *
   generalize itoaL (N-80)=s2 at *
   obtain⟨b',hb'⟩:∃b',b'=m25b0:=⟨_,rfl⟩
   rw[RunL_eq,show Item.lp m25k0 m25b0=Item.lp m25k0 b' by rw[hb']]
   apply hide;intro rhs hrhs
   simp(maxSteps:=4000000) (disch:=first|omega|exact ok_of (by(try simp only[bB.u,seval,cut,hk.a]);kernel_rfl)|decide) only[bB.u,seval,cut,m25b0,R_or,hlt,hg,hN,h1',h2',h4',k1,k2,show((0:Nat):Int)=0 from rfl,Run_nil,reach,hk.a]
   repeat'((with_reducible first|refine sp ?_ ?_|fail)<;>intro hx<;>(try simp only[bI.u]at hx)<;>(first|exact xz|(try simp(maxSteps:=4000000) (disch:=first|omega|exact ok_of (by(try simp only[bB.u,seval,cut,hk.a]);kernel_rfl)|decide) only[bB.u,seval,cut,hx,m25b0,R_or,hlt,hg,hN,h1',h2',h4',k1,k2,show((0:Nat):Int)=0 from rfl,Run_nil,reach,hk.a])))
   all_goals first|exact xz|(subst hrhs;(subst hb';refine(congrArg (fin _) (Run_lp Q _ _ _ _)).trans ?_;exact congrArg (fin R_or) (RunL_canon (canon_cong (by simp only[bA.u,seval,canon,liveNames,inhOf,keptNames,reach,nub,has,inner,newObjs,keepV,renObj,m25k0,hk.a]<;>rfl) (by simp only[bA.u,seval,canon,liveNames,inhOf,keptNames,reach,nub,has,inner,newObjs,keepV,renObj,m25k0,hk.a]<;>rfl) (by simp only[bA.u,seval,canon,liveNames,inhOf,keptNames,reach,nub,has,inner,newObjs,keepV,renObj,m25k0,hk.a]<;>rfl)))))
  ·rw[show min (N/40) 2=N/40 by omega]
   have h4':decide (2<N/40)=false:=by simpa using h4
   have k1:=c_Digits (N/40) (by omega) (by omega)
   have k2:=c_Digits (N-40*(N/40)) (by omega) (by omega)
   have l1:=itoaL_len (N/40)
   have l2:=itoaL_len (N-40*(N/40))
   generalize itoaL (N/40)=s1 at *
   generalize itoaL (N-40*(N/40))=s2 at *
   obtain⟨b',hb'⟩:∃b',b'=m25b0:=⟨_,rfl⟩
   rw[RunL_eq,show Item.lp m25k0 m25b0=Item.lp m25k0 b' by rw[hb']]
   apply hide;intro rhs hrhs
   simp(maxSteps:=4000000) (disch:=first|omega|exact ok_of (by(try simp only[bB.u,seval,cut,hk.a]);kernel_rfl)|decide) only[bB.u,seval,cut,m25b0,R_or,hlt,hg,hN,h1',h2',h4',k1,k2,show((0:Nat):Int)=0 from rfl,Run_nil,reach,hk.a]
   repeat'((with_reducible first|refine sp ?_ ?_|fail)<;>intro hx<;>(try simp only[bI.u]at hx)<;>(first|exact xz|(try simp(maxSteps:=4000000) (disch:=first|omega|exact ok_of (by(try simp only[bB.u,seval,cut,hk.a]);kernel_rfl)|decide) only[bB.u,seval,cut,hx,m25b0,R_or,hlt,hg,hN,h1',h2',h4',k1,k2,show((0:Nat):Int)=0 from rfl,Run_nil,reach,hk.a])))
   all_goals first|exact xz|(subst hrhs;(subst hb';refine(congrArg (fin _) (Run_lp Q _ _ _ _)).trans ?_;exact congrArg (fin R_or) (RunL_canon (canon_cong (by simp only[bA.u,seval,canon,liveNames,inhOf,keptNames,reach,nub,has,inner,newObjs,keepV,renObj,m25k0,hk.a]<;>rfl) (by simp only[bA.u,seval,canon,liveNames,inhOf,keptNames,reach,nub,has,inner,newObjs,keepV,renObj,m25k0,hk.a]<;>rfl) (by simp only[bA.u,seval,canon,liveNames,inhOf,keptNames,reach,nub,has,inner,newObjs,keepV,renObj,m25k0,hk.a]<;>rfl)))))
 ·rw[if_neg h3]
  have h3':((ps.length:Int)==0)=false:=by
   cases ps with
   |nil=>exact absurd rfl h3
   |cons x r=>rw[beq_eq_false_iff_ne,List.length_cons];omega
  have k2:=c_Digits N (by omega) (by omega)
  have l2:=itoaL_len N
  refine⟨⟨by simp;omega,by simp,by simp,?_⟩,?_⟩
  ·intro p hpm
   rcases List.mem_append.1 hpm with hpm|hpm
   ·exact hp p hpm
   ·simp only[List.mem_singleton]at hpm;rw[hpm];exact l2
  simp only[join_snoc ps _ h3,List.length_append,List.length_cons,List.length_nil]
  generalize itoaL N=s2 at *
  generalize Lib.join ps [46]=s1 at *
  unfold or_st
  rw[e9]
  obtain⟨b',hb'⟩:∃b',b'=m25b0:=⟨_,rfl⟩
  rw[RunL_eq,show Item.lp m25k0 m25b0=Item.lp m25k0 b' by rw[hb']]
  apply hide;intro rhs hrhs
  simp(maxSteps:=4000000) (disch:=first|omega|exact ok_of (by(try simp only[bB.u,seval,cut,hk.a]);kernel_rfl)|decide) only[bB.u,seval,cut,m25b0,R_or,hlt,hg,hN,h1',h2',h3',k2,Run_nil,reach,hk.a]
  repeat'((with_reducible first|refine sp ?_ ?_|fail)<;>intro hx<;>(try simp only[bI.u]at hx)<;>(first|exact xz|(try simp(maxSteps:=4000000) (disch:=first|omega|exact ok_of (by(try simp only[bB.u,seval,cut,hk.a]);kernel_rfl)|decide) only[bB.u,seval,cut,hx,m25b0,R_or,hlt,hg,hN,h1',h2',h3',k2,Run_nil,reach,hk.a])))
  all_goals first|exact xz|(subst hrhs;(subst hb';refine(congrArg (fin _) (Run_lp Q _ _ _ _)).trans ?_;exact congrArg (fin R_or) (RunL_canon (canon_cong (by simp only[bA.u,seval,canon,liveNames,inhOf,keptNames,reach,nub,has,inner,newObjs,keepV,renObj,m25k0,hk.a]<;>rfl) (by simp only[bA.u,seval,canon,liveNames,inhOf,keptNames,reach,nub,has,inner,newObjs,keepV,renObj,m25k0,hk.a]<;>rfl) (by simp only[bA.u,seval,canon,liveNames,inhOf,keptNames,reach,nub,has,inner,newObjs,keepV,renObj,m25k0,hk.a]<;>rfl)))))
theorem or_end (c t:Int) (m:Bool) (k:MV) (hk:Fs k) (b:List UInt8) (s:List UInt8) (n:Int) (cnt:Nat):fin R_or (RunL Q m25k0 m25b0 [.blk 0,.code or_tail] (or_st [.int .i64 c,.int .i64 t,.bool m,.bs b,k] s n cnt b.length))=some (.tup [.str s,.bool (decide (cnt≤20))]):=by
 have hlt:decide ((b.length:Int)<(b.length:Int))=false:=by simp
 have hd:decide ((cnt:Int)≤20)=decide (cnt≤20):=by rw[decide_eq_decide];omega
 unfold or_st
 obtain⟨b',hb'⟩:∃b',b'=m25b0:=⟨_,rfl⟩
 rw[RunL_eq,show Item.lp m25k0 m25b0=Item.lp m25k0 b' by rw[hb']]
 apply hide;intro rhs hrhs
 simp(maxSteps:=4000000) (disch:=first|omega|exact ok_of (by(try simp only[bB.u,seval,cut,hk.a]);kernel_rfl)|decide) only[bB.u,seval,cut,m25b0,R_or,hlt,or_tail,hd,Run_nil,reach,hk.a]
 repeat'((with_reducible first|refine sp ?_ ?_|fail)<;>intro hx<;>(try simp only[bI.u]at hx)<;>(first|exact xz|(try simp(maxSteps:=4000000) (disch:=first|omega|exact ok_of (by(try simp only[bB.u,seval,cut,hk.a]);kernel_rfl)|decide) only[bB.u,seval,cut,hx,m25b0,R_or,hlt,or_tail,hd,Run_nil,reach,hk.a])))
 all_goals first|exact xz|(subst hrhs;rfl)
def orV (s:List UInt8):OR→MV
 | .no=>.tup [.str s,.bool false]
 | .ok x=>.tup [.str x,.bool true]
theorem c_OidR (v:MV) (t:T) (hv:Rv v t) (hs:sz t≤2^20):∃s,Call Q 25 [v]=some (orV s (oidR t)):=by
 have hcan:=c_can v t hv hs
 cases hv with
 | @mk _ c tg m w k b ks hb hk=>
 rw[sz]at hs
 have hw:=hb.fs
 have hkf:=hk.fs
 rw[oidR]
 by_cases h:(wrW (.mk c tg m b ks)).1≠0∨c≠0∨tg≠6
 ·rw[if_pos h]
  refine⟨[],?_⟩
  unfold orV
  by_cases h1:(wrW (.mk c tg m b ks)).1=0
  ·rw[show decide ((wrW (.mk c tg m b ks)).1=0)=true by simpa using h1]at hcan
   by_cases h2:c=0
   ·have h3:tg≠6:=by
     rcases h with h|h|h
     ·exact absurd h1 h
     ·exact absurd h2 h
     ·exact h
    subst h2
    have b1:(tg != 6)=true:=by simpa using h3
    have b2:(tg==6)=false:=by simpa using h3
    rw[Call_fn Q (m:=m25) rfl rfl]
    apply hide;intro rhs hrhs
    simp(maxSteps:=4000000) (disch:=first|omega|exact ok_of (by(try simp only[bB.u,seval,cut,hw.a,hkf.a]);kernel_rfl)|decide) only[bB.u,seval,cut,m25,hcan,b1,b2,Run_nil,reach,hw.a,hkf.a]
    repeat'((with_reducible first|refine sp ?_ ?_|fail)<;>intro hx<;>(try simp only[bI.u]at hx)<;>(first|exact xz|(try simp(maxSteps:=4000000) (disch:=first|omega|exact ok_of (by(try simp only[bB.u,seval,cut,hw.a,hkf.a]);kernel_rfl)|decide) only[bB.u,seval,cut,hx,m25,hcan,b1,b2,Run_nil,reach,hw.a,hkf.a])))
    all_goals first|exact xz|(subst hrhs;rfl)
   ·have b1:(c != 0)=true:=by simpa using h2
    have b2:(c==0)=false:=by simpa using h2
    rw[Call_fn Q (m:=m25) rfl rfl]
    apply hide;intro rhs hrhs
    simp(maxSteps:=4000000) (disch:=first|omega|exact ok_of (by(try simp only[bB.u,seval,cut,hw.a,hkf.a]);kernel_rfl)|decide) only[bB.u,seval,cut,m25,hcan,b1,b2,Run_nil,reach,hw.a,hkf.a]
    repeat'((with_reducible first|refine sp ?_ ?_|fail)<;>intro hx<;>(try simp only[bI.u]at hx)<;>(first|exact xz|(try simp(maxSteps:=4000000) (disch:=first|omega|exact ok_of (by(try simp only[bB.u,seval,cut,hw.a,hkf.a]);kernel_rfl)|decide) only[bB.u,seval,cut,hx,m25,hcan,b1,b2,Run_nil,reach,hw.a,hkf.a])))
    all_goals first|exact xz|(subst hrhs;rfl)
  ·rw[show decide ((wrW (.mk c tg m b ks)).1=0)=false by simpa using h1]at hcan
   rw[Call_fn Q (m:=m25) rfl rfl]
   apply hide;intro rhs hrhs
   simp(maxSteps:=4000000) (disch:=first|omega|exact ok_of (by(try simp only[bB.u,seval,cut,hw.a,hkf.a]);kernel_rfl)|decide) only[bB.u,seval,cut,m25,hcan,Run_nil,reach,hw.a,hkf.a]
   repeat'((with_reducible first|refine sp ?_ ?_|fail)<;>intro hx<;>(try simp only[bI.u]at hx)<;>(first|exact xz|(try simp(maxSteps:=4000000) (disch:=first|omega|exact ok_of (by(try simp only[bB.u,seval,cut,hw.a,hkf.a]);kernel_rfl)|decide) only[bB.u,seval,cut,hx,m25,hcan,Run_nil,reach,hw.a,hkf.a])))
   all_goals first|exact xz|(subst hrhs;rfl)
 rw[if_neg h]
 have h1:(wrW (.mk c tg m b ks)).1=0:=Decidable.not_not.1 fun x=>h (.inl x)
 have h2:c=0:=Decidable.not_not.1 fun x=>h (.inr (.inl x))
 have h3:tg=6:=Decidable.not_not.1 fun x=>h (.inr (.inr x))
 subst h2;subst h3
 have hne:b≠[]:=by
  rintro rfl
  have:=(wr_ok (wrW_wr h1).1).2.2.1
  cases m<;>exact absurd this (by decide)
 rw[h1]at hcan
 have loop:∃s,fin R_or (RunL Q m25k0 m25b0 [.blk 0,.code or_tail] (or_st [.int .i64 0,.int .i64 6,.bool m,.bs b,k] [] 0 0 0))=some (orV s (oidG b)):=by
  have hL:=loopI b gO (fun s i=>fin R_or (RunL Q m25k0 m25b0 [.blk 0,.code or_tail] (or_st [.int .i64 0,.int .i64 6,.bool m,.bs b,k] (Lib.join s.1 [46]) s.2 s.1.length i))) (fun _=>some (.tup [.str [],.bool false])) (fun s i=>s.1.length≤2*i∧0≤s.2∧s.2<1099511627776∧∀p∈s.1,p.length≤21)
   (fun s i x hI hg=>or_step _ 0 6 m k hkf b (by omega) s i x hI hg) ([],0) ⟨by simp,by simp,by simp,by simp⟩
  unfold oidG
  cases hf:foldE gO ([],0) b with
  |inr u=>rw[hf]at hL;exact⟨[],hL⟩
  |inl s=>
   rw[hf]at hL
   obtain⟨hI,hL⟩:=hL
   refine⟨Lib.join s.1 [46],hL.trans ?_⟩
   refine(or_end 0 6 m k hkf b _ _ _).trans ?_
   by_cases h20:20<s.1.length
   ·rw[show decide (s.1.length≤20)=false by simp;omega]
    simp only[if_pos h20,orV]
   ·rw[show decide (s.1.length≤20)=true by simp;omega]
    simp only[if_neg h20,orV]
 obtain⟨s,loop⟩:=loop
 refine⟨s,?_⟩
 unfold or_st at loop
 rw[Call_fn Q (m:=m25) rfl rfl]
 cases hb
 rotate_left
 ·exact absurd rfl hne
 apply hide;intro rhs hrhs
 simp(maxSteps:=4000000) (disch:=first|omega|exact ok_of (by(try simp only[bB.u,seval,cut,hkf.a]);kernel_rfl)|decide) only[bB.u,seval,cut,m25,hcan,show decide ((0:Int)=0)=true from rfl,Run_loop,Run_nil,reach,hkf.a]
 repeat'((with_reducible first|refine sp ?_ ?_|fail)<;>intro hx<;>(try simp only[bI.u]at hx)<;>(first|exact xz|(try simp(maxSteps:=4000000) (disch:=first|omega|exact ok_of (by(try simp only[bB.u,seval,cut,hkf.a]);kernel_rfl)|decide) only[bB.u,seval,cut,hx,m25,hcan,show decide ((0:Int)=0)=true from rfl,Run_loop,Run_nil,reach,hkf.a])))
 all_goals first|exact xz|(subst hrhs;exact(congrArg (fin _) (RunL_canon (canon_cong (by simp only[bA.u,seval,canon,liveNames,inhOf,keptNames,reach,nub,has,inner,newObjs,keepV,renObj,m25k0,hkf.a]<;>rfl) (by simp only[bA.u,seval,canon,liveNames,inhOf,keptNames,reach,nub,has,inner,newObjs,keepV,renObj,m25k0,hkf.a]<;>rfl) (by simp only[bA.u,seval,canon,liveNames,inhOf,keptNames,reach,nub,has,inner,newObjs,keepV,renObj,m25k0,hkf.a]<;>rfl)))).trans loop)
theorem c_kindR (s:List UInt8) (hs:s.length<2^60):Call Q 27 [.str s]=some (.int .i64 (tagOf s)):=by
 rw[Call_fn Q (m:=m27) rfl rfl]
 apply hide;intro rhs hrhs
 simp(maxSteps:=4000000)(disch:=first|exact dz|fail)only[bB.u,seval,cut,m27,Run_loop]
 refine useK fun K hK=>?_
 refine loopR s (gAll prB) (fun _ i=>fin [(2,none,PK.other)] (RunL Q m27k0 m27b0 K ⟨[(0,.str s),(3,.int .i64 (i:Nat))],[],[],1⟩)) (fun _=>some (.int .i64 12))
  (fun _ i=>i≤s.length) ?_ () (Nat.zero_le _) (congrArg (fin _) (RunL_canon (canon_cong kr kr kr))) ?_ ?_
 ·intro p i x hI hg
  obtain⟨hi,hxx⟩:=List.getElem?_eq_some_iff.1 hg
  have hlt:decide ((i:Int)<(s.length:Int))=true:=by simp;omega
  have hq:=c_prnR x
  have hgd:s.getD i 0=x:=by rw[List.getD_eq_getElem?_getD,hg];rfl
  unfold gAll
  split
  ·rename_i hc
   rw[hc]at hq
   refine⟨by omega,?_⟩
   obtain⟨b',hb'⟩:∃b',b'=m27b0:=⟨_,rfl⟩
   rw[RunL_eq,show Item.lp m27k0 m27b0=Item.lp m27k0 b' by rw[hb']]
   apply hide;intro rhs hrhs
   simp(maxSteps:=4000000)(disch:=first|exact dz|fail)only[bB.u,seval,cut,m27b0,hlt,hgd,hq]
   repeat'((with_reducible first|refine sp ?_ ?_|fail)<;>intro hx<;>(try simp only[bI.u]at hx)<;>(first|exact xz|(try simp(maxSteps:=4000000)(disch:=first|exact dz|fail)only[bB.u,seval,cut,hx,m27b0,hlt,hgd,hq])))
   all_goals first|exact xz|(subst hrhs;(subst hb';refine(congrArg (fin _) (Run_lp Q _ _ _ _)).trans ?_;exact congrArg (fin [(2,none,.other)]) (RunL_canon (canon_cong kr kr kr))))
  ·rename_i hc
   rw[Bool.not_eq_true]at hc
   rw[hc]at hq
   simp only[After]
   obtain⟨b',hb'⟩:∃b',b'=m27b0:=⟨_,rfl⟩
   rw[RunL_eq,show Item.lp m27k0 m27b0=Item.lp m27k0 b' by rw[hb']]
   apply hide;intro rhs hrhs
   simp(maxSteps:=4000000)(disch:=first|exact dz|fail)only[bB.u,seval,cut,m27b0,hlt,hgd,hq]
   repeat'((with_reducible first|refine sp ?_ ?_|fail)<;>intro hx<;>(try simp only[bI.u]at hx)<;>(first|exact xz|(try simp(maxSteps:=4000000)(disch:=first|exact dz|fail)only[bB.u,seval,cut,hx,m27b0,hlt,hgd,hq])))
   all_goals first|exact xz|(subst hrhs;rfl)
 ·intro u hf hI
  have hlt:decide ((s.length:Int)<(s.length:Int))=false:=by simp
  subst hK
  rw[all_fold]at hf
  have ha:s.all prB=true:=by
   cases h:s.all prB
   ·rw[h]at hf;cases hf
   ·rfl
  rw[hrhs,show tagOf s=19 from if_pos ha]
  obtain⟨b',hb'⟩:∃b',b'=m27b0:=⟨_,rfl⟩
  rw[RunL_eq,show Item.lp m27k0 m27b0=Item.lp m27k0 b' by rw[hb']]
  apply hide;intro rhs hrhs
  simp(maxSteps:=4000000)(disch:=first|exact dz|fail)only[bB.u,seval,cut,m27b0,hlt]
  repeat'((with_reducible first|refine sp ?_ ?_|fail)<;>intro hx<;>(try simp only[bI.u]at hx)<;>(first|exact xz|(try simp(maxSteps:=4000000)(disch:=first|exact dz|fail)only[bB.u,seval,cut,hx,m27b0,hlt])))
  all_goals first|exact xz|(subst hrhs;rfl)
 ·intro c hf
  subst hrhs
  rw[all_fold]at hf
  cases h:s.all prB
  ·rw[show tagOf s=12 from if_neg (by rw[show s.all printB=s.all prB from rfl,h];simp)]
  ·rw[h]at hf;cases hf
theorem c_textR (s:List UInt8) (hs:s.length<2^40):Call Q 26 [.str s]=some (.bool (textB s)):=by
 have hu:=c_UTF8 s (by omega)
 unfold textB
 rw[Call_fn Q (m:=m26) rfl rfl]
 by_cases h1:1≤s.length
 ·by_cases h2:s.length≤64
  ·have a1:decide (1≤(s.length:Int))=true:=by simp;omega
   have a2:decide ((s.length:Int)≤64)=true:=by simp;omega
   rw[decide_eq_true h1,decide_eq_true h2,Bool.true_and,Bool.true_and]
   apply hide;intro rhs hrhs
   simp(maxSteps:=4000000)(disch:=first|exact dz|fail)only[bB.u,seval,cut,m26,a1,a2,hu]
   repeat'((with_reducible first|refine sp ?_ ?_|fail)<;>intro hx<;>(try simp only[bI.u]at hx)<;>(first|exact xz|(try simp(maxSteps:=4000000)(disch:=first|exact dz|fail)only[bB.u,seval,cut,hx,m26,a1,a2,hu])))
   all_goals first|exact xz|(subst hrhs;rfl)
  ·have a1:decide (1≤(s.length:Int))=true:=by simp;omega
   have a2:decide ((s.length:Int)≤64)=false:=by simp;omega
   rw[decide_eq_false h2,Bool.and_false,Bool.false_and]
   apply hide;intro rhs hrhs
   simp(maxSteps:=4000000)(disch:=first|exact dz|fail)only[bB.u,seval,cut,m26,a1,a2,hu]
   repeat'((with_reducible first|refine sp ?_ ?_|fail)<;>intro hx<;>(try simp only[bI.u]at hx)<;>(first|exact xz|(try simp(maxSteps:=4000000)(disch:=first|exact dz|fail)only[bB.u,seval,cut,hx,m26,a1,a2,hu])))
   all_goals first|exact xz|(subst hrhs;rfl)
 ·have a1:decide (1≤(s.length:Int))=false:=by rw[decide_eq_false_iff_not];omega
  rw[decide_eq_false h1,Bool.false_and,Bool.false_and]
  apply hide;intro rhs hrhs
  simp(maxSteps:=4000000)(disch:=first|exact dz|fail)only[bB.u,seval,cut,m26,a1,hu]
  repeat'((with_reducible first|refine sp ?_ ?_|fail)<;>intro hx<;>(try simp only[bI.u]at hx)<;>(first|exact xz|(try simp(maxSteps:=4000000)(disch:=first|exact dz|fail)only[bB.u,seval,cut,hx,m26,a1,hu])))
  all_goals first|exact xz|(subst hrhs;rfl)
theorem pr_1 (c t:Int) (m:Bool) (w k:MV) (hw:Fs w) (hk:Fs k) (nk:Nat) (lk:∀st,lenV false k st=some (.int .i64 nk)) (h:c≠0∨t≠17∨nk≠1):Call Q 24 [.agg [.int .i64 c,.int .i64 t,.bool m,w,k]]=some (.tup [.agg [.int .i64 0,.int .i64 0,.bool false,.nilsl,.nilsl],.agg [.int .i64 0,.int .i64 0,.bool false,.nilsl,.nilsl],.bool false]):=by
 rw[Call_fn Q (m:=m24) rfl rfl]
 by_cases h1:c=0
 ·subst h1
  by_cases h2:t=17
  ·subst h2
   have b1:((nk:Int) != 1)=true:=by simp;omega
   have b2:((nk:Int)==1)=false:=by rw[beq_eq_false_iff_ne];omega
   apply hide;intro rhs hrhs
   simp(maxSteps:=4000000) (disch:=first|omega|exact ok_of (by(try simp only[bB.u,seval,cut,hw.a,hk.a]);kernel_rfl)|decide) only[bB.u,seval,cut,m24,lk,b1,b2,Run_nil,reach,hw.a,hk.a]
   repeat'((with_reducible first|refine sp ?_ ?_|fail)<;>intro hx<;>(try simp only[bI.u]at hx)<;>(first|exact xz|(try simp(maxSteps:=4000000) (disch:=first|omega|exact ok_of (by(try simp only[bB.u,seval,cut,hw.a,hk.a]);kernel_rfl)|decide) only[bB.u,seval,cut,hx,m24,lk,b1,b2,Run_nil,reach,hw.a,hk.a])))
   all_goals first|exact xz|(subst hrhs;rfl)
  ·have b1:(t != 17)=true:=by simpa using h2
   have b2:(t==17)=false:=by simpa using h2
   apply hide;intro rhs hrhs
   simp(maxSteps:=4000000) (disch:=first|omega|exact ok_of (by(try simp only[bB.u,seval,cut,hw.a,hk.a]);kernel_rfl)|decide) only[bB.u,seval,cut,m24,lk,b1,b2,Run_nil,reach,hw.a,hk.a]
   repeat'((with_reducible first|refine sp ?_ ?_|fail)<;>intro hx<;>(try simp only[bI.u]at hx)<;>(first|exact xz|(try simp(maxSteps:=4000000) (disch:=first|omega|exact ok_of (by(try simp only[bB.u,seval,cut,hw.a,hk.a]);kernel_rfl)|decide) only[bB.u,seval,cut,hx,m24,lk,b1,b2,Run_nil,reach,hw.a,hk.a])))
   all_goals first|exact xz|(subst hrhs;rfl)
 ·have b1:(c != 0)=true:=by simpa using h1
  have b2:(c==0)=false:=by simpa using h1
  apply hide;intro rhs hrhs
  simp(maxSteps:=4000000) (disch:=first|omega|exact ok_of (by(try simp only[bB.u,seval,cut,hw.a,hk.a]);kernel_rfl)|decide) only[bB.u,seval,cut,m24,lk,b1,b2,Run_nil,reach,hw.a,hk.a]
  repeat'((with_reducible first|refine sp ?_ ?_|fail)<;>intro hx<;>(try simp only[bI.u]at hx)<;>(first|exact xz|(try simp(maxSteps:=4000000) (disch:=first|omega|exact ok_of (by(try simp only[bB.u,seval,cut,hw.a,hk.a]);kernel_rfl)|decide) only[bB.u,seval,cut,hx,m24,lk,b1,b2,Run_nil,reach,hw.a,hk.a])))
  all_goals first|exact xz|(subst hrhs;rfl)
theorem pr_2 (m:Bool) (w:MV) (hw:Fs w) (c t:Int) (m2:Bool) (w2 k2:MV) (hw2:Fs w2) (hk2:Fs k2) (nk:Nat) (lk:∀st,lenV false k2 st=some (.int .i64 nk)) (h:c≠0∨t≠16∨nk≠2):Call Q 24 [.agg [.int .i64 0,.int .i64 17,.bool m,w,.sl 5 [.agg [.int .i64 c,.int .i64 t,.bool m2,w2,k2]]]]=some (.tup [.agg [.int .i64 0,.int .i64 0,.bool false,.nilsl,.nilsl],.agg [.int .i64 0,.int .i64 0,.bool false,.nilsl,.nilsl],.bool false]):=by
 rw[Call_fn Q (m:=m24) rfl rfl]
 by_cases h1:c=0
 ·subst h1
  by_cases h2:t=16
  ·subst h2
   have b1:((nk:Int) != 2)=true:=by simp;omega
   have b2:((nk:Int)==2)=false:=by rw[beq_eq_false_iff_ne];omega
   apply hide;intro rhs hrhs
   simp(maxSteps:=4000000) (disch:=first|omega|exact ok_of (by(try simp only[bB.u,seval,cut,hw.a,hw2.a,hk2.a]);kernel_rfl)|decide) only[bB.u,seval,cut,m24,lk,b1,b2,Run_nil,reach,hw.a,hw2.a,hk2.a]
   repeat'((with_reducible first|refine sp ?_ ?_|fail)<;>intro hx<;>(try simp only[bI.u]at hx)<;>(first|exact xz|(try simp(maxSteps:=4000000) (disch:=first|omega|exact ok_of (by(try simp only[bB.u,seval,cut,hw.a,hw2.a,hk2.a]);kernel_rfl)|decide) only[bB.u,seval,cut,hx,m24,lk,b1,b2,Run_nil,reach,hw.a,hw2.a,hk2.a])))
   all_goals first|exact xz|(subst hrhs;rfl)
  ·have b1:(t != 16)=true:=by simpa using h2
   have b2:(t==16)=false:=by simpa using h2
   apply hide;intro rhs hrhs
   simp(maxSteps:=4000000) (disch:=first|omega|exact ok_of (by(try simp only[bB.u,seval,cut,hw.a,hw2.a,hk2.a]);kernel_rfl)|decide) only[bB.u,seval,cut,m24,lk,b1,b2,Run_nil,reach,hw.a,hw2.a,hk2.a]
   repeat'((with_reducible first|refine sp ?_ ?_|fail)<;>intro hx<;>(try simp only[bI.u]at hx)<;>(first|exact xz|(try simp(maxSteps:=4000000) (disch:=first|omega|exact ok_of (by(try simp only[bB.u,seval,cut,hw.a,hw2.a,hk2.a]);kernel_rfl)|decide) only[bB.u,seval,cut,hx,m24,lk,b1,b2,Run_nil,reach,hw.a,hw2.a,hk2.a])))
   all_goals first|exact xz|(subst hrhs;rfl)
 ·have b1:(c != 0)=true:=by simpa using h1
  have b2:(c==0)=false:=by simpa using h1
  apply hide;intro rhs hrhs
  simp(maxSteps:=4000000) (disch:=first|omega|exact ok_of (by(try simp only[bB.u,seval,cut,hw.a,hw2.a,hk2.a]);kernel_rfl)|decide) only[bB.u,seval,cut,m24,lk,b1,b2,Run_nil,reach,hw.a,hw2.a,hk2.a]
  repeat'((with_reducible first|refine sp ?_ ?_|fail)<;>intro hx<;>(try simp only[bI.u]at hx)<;>(first|exact xz|(try simp(maxSteps:=4000000) (disch:=first|omega|exact ok_of (by(try simp only[bB.u,seval,cut,hw.a,hw2.a,hk2.a]);kernel_rfl)|decide) only[bB.u,seval,cut,hx,m24,lk,b1,b2,Run_nil,reach,hw.a,hw2.a,hk2.a])))
  all_goals first|exact xz|(subst hrhs;rfl)
theorem pr_3 (m:Bool) (w:MV) (hw:Fs w) (m2:Bool) (w2:MV) (hw2:Fs w2) (c3 t3:Int) (m3:Bool) (w3 k3:MV) (hw3:Fs w3) (hk3:Fs k3) (c4 t4:Int) (m4:Bool) (w4 k4:MV) (hw4:Fs w4) (hk4:Fs k4) (q:Bool) (hq:q=(decide (c4=0)&&(decide (t4=12)||decide (t4=19)))):Call Q 24 [.agg [.int .i64 0,.int .i64 17,.bool m,w,.sl 5 [.agg [.int .i64 0,.int .i64 16,.bool m2,w2,.sl 5 [.agg [.int .i64 c3,.int .i64 t3,.bool m3,w3,k3],.agg [.int .i64 c4,.int .i64 t4,.bool m4,w4,k4]]]]]]=some (.tup [.agg [.int .i64 c3,.int .i64 t3,.bool m3,w3,k3],.agg [.int .i64 c4,.int .i64 t4,.bool m4,w4,k4],.bool q]):=by
 rw[Call_fn Q (m:=m24) rfl rfl]
 subst hq
 by_cases h1:c4=0
 ·subst h1
  by_cases h2:t4=12
  ·subst h2
   apply hide;intro rhs hrhs
   simp(maxSteps:=4000000) (disch:=first|omega|exact ok_of (by(try simp only[bB.u,seval,cut,hw.a,hw2.a,hw3.a,hk3.a,hw4.a,hk4.a]);kernel_rfl)|decide) only[bB.u,seval,cut,m24,hw.l,Run_nil,reach,hw.a,hw2.a,hw3.a,hk3.a,hw4.a,hk4.a]
   repeat'((with_reducible first|refine sp ?_ ?_|fail)<;>intro hx<;>(try simp only[bI.u]at hx)<;>(first|exact xz|(try simp(maxSteps:=4000000) (disch:=first|omega|exact ok_of (by(try simp only[bB.u,seval,cut,hw.a,hw2.a,hw3.a,hk3.a,hw4.a,hk4.a]);kernel_rfl)|decide) only[bB.u,seval,cut,hx,m24,hw.l,Run_nil,reach,hw.a,hw2.a,hw3.a,hk3.a,hw4.a,hk4.a])))
   all_goals first|exact xz|(subst hrhs;rfl)
  ·by_cases h3:t4=19
   ·subst h3
    apply hide;intro rhs hrhs
    simp(maxSteps:=4000000) (disch:=first|omega|exact ok_of (by(try simp only[bB.u,seval,cut,hw.a,hw2.a,hw3.a,hk3.a,hw4.a,hk4.a]);kernel_rfl)|decide) only[bB.u,seval,cut,m24,hw.l,Run_nil,reach,hw.a,hw2.a,hw3.a,hk3.a,hw4.a,hk4.a]
    repeat'((with_reducible first|refine sp ?_ ?_|fail)<;>intro hx<;>(try simp only[bI.u]at hx)<;>(first|exact xz|(try simp(maxSteps:=4000000) (disch:=first|omega|exact ok_of (by(try simp only[bB.u,seval,cut,hw.a,hw2.a,hw3.a,hk3.a,hw4.a,hk4.a]);kernel_rfl)|decide) only[bB.u,seval,cut,hx,m24,hw.l,Run_nil,reach,hw.a,hw2.a,hw3.a,hk3.a,hw4.a,hk4.a])))
    all_goals first|exact xz|(subst hrhs;rfl)
   ·have b1:(t4==12)=false:=by simpa using h2
    have b2:(t4==19)=false:=by simpa using h3
    have b3:decide (t4=12)=false:=by simpa using h2
    have b4:decide (t4=19)=false:=by simpa using h3
    rw[b3,b4]
    apply hide;intro rhs hrhs
    simp(maxSteps:=4000000) (disch:=first|omega|exact ok_of (by(try simp only[bB.u,seval,cut,hw.a,hw2.a,hw3.a,hk3.a,hw4.a,hk4.a]);kernel_rfl)|decide) only[bB.u,seval,cut,m24,b1,b2,Run_nil,reach,hw.a,hw2.a,hw3.a,hk3.a,hw4.a,hk4.a]
    repeat'((with_reducible first|refine sp ?_ ?_|fail)<;>intro hx<;>(try simp only[bI.u]at hx)<;>(first|exact xz|(try simp(maxSteps:=4000000) (disch:=first|omega|exact ok_of (by(try simp only[bB.u,seval,cut,hw.a,hw2.a,hw3.a,hk3.a,hw4.a,hk4.a]);kernel_rfl)|decide) only[bB.u,seval,cut,hx,m24,b1,b2,Run_nil,reach,hw.a,hw2.a,hw3.a,hk3.a,hw4.a,hk4.a])))
    all_goals first|exact xz|(subst hrhs;rfl)
 ·have b1:(c4==0)=false:=by simpa using h1
  rw[decide_eq_false h1]
  apply hide;intro rhs hrhs
  simp(maxSteps:=4000000) (disch:=first|omega|exact ok_of (by(try simp only[bB.u,seval,cut,hw.a,hw2.a,hw3.a,hk3.a,hw4.a,hk4.a]);kernel_rfl)|decide) only[bB.u,seval,cut,m24,b1,Run_nil,reach,hw.a,hw2.a,hw3.a,hk3.a,hw4.a,hk4.a]
  repeat'((with_reducible first|refine sp ?_ ?_|fail)<;>intro hx<;>(try simp only[bI.u]at hx)<;>(first|exact xz|(try simp(maxSteps:=4000000) (disch:=first|omega|exact ok_of (by(try simp only[bB.u,seval,cut,hw.a,hw2.a,hw3.a,hk3.a,hw4.a,hk4.a]);kernel_rfl)|decide) only[bB.u,seval,cut,hx,m24,b1,Run_nil,reach,hw.a,hw2.a,hw3.a,hk3.a,hw4.a,hk4.a])))
  all_goals first|exact xz|(subst hrhs;rfl)
def R_q:List (Nat × Option (Bool × Nat) × PK):=[(2,none,.el 2),(3,none,.other)]
def q_tail:MCode:=(.seq (sq [qa 79 5,qC 80 .neq 79 0] (.cond (.v 80) (sq [qa 81 5,qn 2,qb 3 81] .ret) .skip)) (sq [qa 82 4,qb 2 82,qe 3 0] .ret))
def q_st (cs:List MV) (d:Dn) (e:Int) (a:Nat) (i:Nat):DS:=⟨[(1,.ptr 0 0),(4,.own a d.length),(5,.int .i64 e),(6,.int .i64 (i:Nat))],[],[(0,.cells cs),(a,.el 2 (attrs d) false)],3⟩
theorem q_bad (K:List Item) (c t:Int) (m:Bool) (w:MV) (hw:Fs w) (l:List MV) (hl:l.length≤16) (d:Dn) (hd:d.length≤2^20) (e:Int) (a:Nat) (ha:1≤a∧a≤2) (i:Nat) (c1 t1:Int) (m1:Bool) (w1 k1:MV) (h1:Fs w1) (h2:Fs k1) (hg:l[i]? = some (.agg [.int .i64 c1,.int .i64 t1,.bool m1,w1,k1])) (hp:Call Q 24 [.agg [.int .i64 c1,.int .i64 t1,.bool m1,w1,k1]]=some (.tup [.agg [.int .i64 0,.int .i64 0,.bool false,.nilsl,.nilsl],.agg [.int .i64 0,.int .i64 0,.bool false,.nilsl,.nilsl],.bool false])) (s:List UInt8) (ho:Call Q 25 [.agg [.int .i64 0,.int .i64 0,.bool false,.nilsl,.nilsl]]=some (.tup [.str s,.bool false])):fin R_q (RunL Q m8k0 m8b0 K (q_st [.int .i64 c,.int .i64 t,.bool m,w,.sl 5 l] d e a i))=some (PR.er 30).mv:=by
 obtain⟨hi,hxx⟩:=List.getElem?_eq_some_iff.1 hg
 have hlt:decide ((i:Int)<(l.length:Int))=true:=by simp;omega
 have i1:(i:Int)<(l.length:Int):=by omega
 have hal:=attrs_length d
 have e9:((i+1:Nat):Int)=(i:Int)+1:=rfl
 simp only[PR.mv]
 unfold q_st
 obtain⟨b',hb'⟩:∃b',b'=m8b0:=⟨_,rfl⟩
 rw[RunL_eq,show Item.lp m8k0 m8b0=Item.lp m8k0 b' by rw[hb']]
 apply hide;intro rhs hrhs
 simp(maxSteps:=4000000) (disch:=first|omega|exact ok_of (by(try simp only[bB.u,seval,cut,hw.a,h1.a,h2.a]);kernel_rfl)|decide) only[bB.u,seval,cut,m8b0,R_q,hlt,i1,hg,hal,hp,ho,Run_nil,reach,hw.a,h1.a,h2.a]
 repeat'((with_reducible first|refine sp ?_ ?_|fail)<;>intro hx<;>(try simp only[bI.u]at hx)<;>(first|exact xz|(try simp(maxSteps:=4000000) (disch:=first|omega|exact ok_of (by(try simp only[bB.u,seval,cut,hw.a,h1.a,h2.a]);kernel_rfl)|decide) only[bB.u,seval,cut,hx,m8b0,R_q,hlt,i1,hg,hal,hp,ho,Run_nil,reach,hw.a,h1.a,h2.a])))
 all_goals first|exact xz|(subst hrhs;rfl)
theorem q_no (K:List Item) (c t:Int) (m:Bool) (w:MV) (hw:Fs w) (l:List MV) (hl:l.length≤16) (d:Dn) (hd:d.length≤2^20) (e:Int) (a:Nat) (ha:1≤a∧a≤2) (i:Nat) (c1 t1:Int) (m1:Bool) (w1 k1:MV) (h1:Fs w1) (h2:Fs k1) (hg:l[i]? = some (.agg [.int .i64 c1,.int .i64 t1,.bool m1,w1,k1])) (ca ta:Int) (ma:Bool) (wa ka:MV) (h3:Fs wa) (h4:Fs ka) (cb tb:Int) (mb:Bool) (wb kb:MV) (h5:Fs wb) (h6:Fs kb) (q q2:Bool) (hqq:(q&&q2)=false) (hp:Call Q 24 [.agg [.int .i64 c1,.int .i64 t1,.bool m1,w1,k1]]=some (.tup [.agg [.int .i64 ca,.int .i64 ta,.bool ma,wa,ka],.agg [.int .i64 cb,.int .i64 tb,.bool mb,wb,kb],.bool q])) (s:List UInt8) (ho:Call Q 25 [.agg [.int .i64 ca,.int .i64 ta,.bool ma,wa,ka]]=some (.tup [.str s,.bool q2])):fin R_q (RunL Q m8k0 m8b0 K (q_st [.int .i64 c,.int .i64 t,.bool m,w,.sl 5 l] d e a i))=some (PR.er 30).mv:=by
 obtain⟨hi,hxx⟩:=List.getElem?_eq_some_iff.1 hg
 have hlt:decide ((i:Int)<(l.length:Int))=true:=by simp;omega
 have i1:(i:Int)<(l.length:Int):=by omega
 have hal:=attrs_length d
 have e9:((i+1:Nat):Int)=(i:Int)+1:=rfl
 simp only[PR.mv]
 unfold q_st
 cases q
 ·obtain⟨b',hb'⟩:∃b',b'=m8b0:=⟨_,rfl⟩
  rw[RunL_eq,show Item.lp m8k0 m8b0=Item.lp m8k0 b' by rw[hb']]
  apply hide;intro rhs hrhs
  simp(maxSteps:=4000000) (disch:=first|omega|exact ok_of (by(try simp only[bB.u,seval,cut,hw.a,h1.a,h2.a,h3.a,h4.a,h5.a,h6.a]);kernel_rfl)|decide) only[bB.u,seval,cut,m8b0,R_q,hlt,i1,hg,hal,hp,ho,Run_nil,reach,hw.a,h1.a,h2.a,h3.a,h4.a,h5.a,h6.a]
  repeat'((with_reducible first|refine sp ?_ ?_|fail)<;>intro hx<;>(try simp only[bI.u]at hx)<;>(first|exact xz|(try simp(maxSteps:=4000000) (disch:=first|omega|exact ok_of (by(try simp only[bB.u,seval,cut,hw.a,h1.a,h2.a,h3.a,h4.a,h5.a,h6.a]);kernel_rfl)|decide) only[bB.u,seval,cut,hx,m8b0,R_q,hlt,i1,hg,hal,hp,ho,Run_nil,reach,hw.a,h1.a,h2.a,h3.a,h4.a,h5.a,h6.a])))
  all_goals first|exact xz|(subst hrhs;rfl)
 ·cases q2
  rotate_left
  ·cases hqq
  obtain⟨b',hb'⟩:∃b',b'=m8b0:=⟨_,rfl⟩
  rw[RunL_eq,show Item.lp m8k0 m8b0=Item.lp m8k0 b' by rw[hb']]
  apply hide;intro rhs hrhs
  simp(maxSteps:=4000000) (disch:=first|omega|exact ok_of (by(try simp only[bB.u,seval,cut,hw.a,h1.a,h2.a,h3.a,h4.a,h5.a,h6.a]);kernel_rfl)|decide) only[bB.u,seval,cut,m8b0,R_q,hlt,i1,hg,hal,hp,ho,Run_nil,reach,hw.a,h1.a,h2.a,h3.a,h4.a,h5.a,h6.a]
  repeat'((with_reducible first|refine sp ?_ ?_|fail)<;>intro hx<;>(try simp only[bI.u]at hx)<;>(first|exact xz|(try simp(maxSteps:=4000000) (disch:=first|omega|exact ok_of (by(try simp only[bB.u,seval,cut,hw.a,h1.a,h2.a,h3.a,h4.a,h5.a,h6.a]);kernel_rfl)|decide) only[bB.u,seval,cut,hx,m8b0,R_q,hlt,i1,hg,hal,hp,ho,Run_nil,reach,hw.a,h1.a,h2.a,h3.a,h4.a,h5.a,h6.a])))
  all_goals first|exact xz|(subst hrhs;rfl)
theorem q_yes (K:List Item) (c t:Int) (m:Bool) (w:MV) (hw:Fs w) (l:List MV) (hl:l.length≤16) (d:Dn) (hd:d.length≤2^20) (e:Int) (a:Nat) (ha:1≤a∧a≤2) (i:Nat) (c1 t1:Int) (m1:Bool) (w1 k1:MV) (h1:Fs w1) (h2:Fs k1) (hg:l[i]? = some (.agg [.int .i64 c1,.int .i64 t1,.bool m1,w1,k1])) (ca ta:Int) (ma:Bool) (wa ka:MV) (h3:Fs wa) (h4:Fs ka) (cb tb:Int) (mb:Bool) (wb kb:MV) (xb:List UInt8) (hxl:xb.length<2^40) (hbx:Rb wb xb) (h6:Fs kb) (hp:Call Q 24 [.agg [.int .i64 c1,.int .i64 t1,.bool m1,w1,k1]]=some (.tup [.agg [.int .i64 ca,.int .i64 ta,.bool ma,wa,ka],.agg [.int .i64 cb,.int .i64 tb,.bool mb,wb,kb],.bool true])) (s:List UInt8) (ho:Call Q 25 [.agg [.int .i64 ca,.int .i64 ta,.bool ma,wa,ka]]=some (.tup [.str s,.bool true])):fin R_q (RunL Q m8k0 m8b0 K (q_st [.int .i64 c,.int .i64 t,.bool m,w,.sl 5 l] d e a i))=fin R_q (RunL Q m8k0 m8b0 K (q_st [.int .i64 c,.int .i64 t,.bool m,w,.sl 5 l] (d++[(s,xb)]) (if textB xb=false∨tagOf xb≠tb then 31 else e) 1 (i+1))):=by
 obtain⟨hi,hxx⟩:=List.getElem?_eq_some_iff.1 hg
 have hlt:decide ((i:Int)<(l.length:Int))=true:=by simp;omega
 have i1:(i:Int)<(l.length:Int):=by omega
 have hal:=attrs_length d
 have e9:((i+1:Nat):Int)=(i:Int)+1:=rfl
 have hu:=c_textR xb hxl
 have hk:=c_kindR xb (by omega)
 have hat:attrs (d++[(s,xb)])=attrs d++[.agg [.str s,.str xb]]:=by simp[attrs,attr]
 have hle:(d++[(s,xb)]).length=d.length+1:=by simp
 have hsb:∀st,bytesOf wb st=some xb:=by cases hbx<;>exact fun _=>rfl
 have h5:=hbx.fs
 by_cases hbad:textB xb=false∨tagOf xb≠tb
 ·rw[if_pos hbad]
  unfold q_st
  rw[hat,hle,e9]
  cases htb:textB xb
  ·rw[htb]at hu
   cases hbx
   all_goals(
   obtain⟨b',hb'⟩:∃b',b'=m8b0:=⟨_,rfl⟩
   rw[RunL_eq,show Item.lp m8k0 m8b0=Item.lp m8k0 b' by rw[hb']]
   apply hide;intro rhs hrhs
   simp(maxSteps:=4000000) (disch:=first|omega|exact ok_of (by(try simp only[bB.u,seval,cut,hw.a,h1.a,h2.a,h3.a,h4.a,h6.a]);kernel_rfl)|decide) only[bB.u,seval,cut,m8b0,R_q,hlt,i1,hg,hal,hp,ho,hu,hk,hsb,Run_nil,reach,hw.a,h1.a,h2.a,h3.a,h4.a,h6.a]
   repeat'((with_reducible first|refine sp ?_ ?_|fail)<;>intro hx<;>(try simp only[bI.u]at hx)<;>(first|exact xz|(try simp(maxSteps:=4000000) (disch:=first|omega|exact ok_of (by(try simp only[bB.u,seval,cut,hw.a,h1.a,h2.a,h3.a,h4.a,h6.a]);kernel_rfl)|decide) only[bB.u,seval,cut,hx,m8b0,R_q,hlt,i1,hg,hal,hp,ho,hu,hk,hsb,Run_nil,reach,hw.a,h1.a,h2.a,h3.a,h4.a,h6.a])))
   all_goals first|exact xz|(subst hrhs;(subst hb';refine(congrArg (fin _) (Run_lp Q _ _ _ _)).trans ?_;exact congrArg (fin R_q) (RunL_canon (canon_cong (by simp only[bA.u,seval,canon,liveNames,inhOf,keptNames,reach,nub,has,inner,newObjs,keepV,renObj,m8k0,hw.a,h1.a,h2.a,h3.a,h4.a,h6.a]<;>rfl) (by simp only[bA.u,seval,canon,liveNames,inhOf,keptNames,reach,nub,has,inner,newObjs,keepV,renObj,m8k0,hw.a,h1.a,h2.a,h3.a,h4.a,h6.a]<;>rfl) (by simp only[bA.u,seval,canon,liveNames,inhOf,keptNames,reach,nub,has,inner,newObjs,keepV,renObj,m8k0,hw.a,h1.a,h2.a,h3.a,h4.a,h6.a]<;>rfl))))))
  ·rw[htb]at hu
   have hT:(tagOf xb != tb)=true:=by
    rcases hbad with h|h
    ·rw[htb]at h;cases h
    ·simpa using h
   have hT':(tagOf xb==tb)=false:=by
    rcases hbad with h|h
    ·rw[htb]at h;cases h
    ·simpa using h
   cases hbx
   all_goals(
   obtain⟨b',hb'⟩:∃b',b'=m8b0:=⟨_,rfl⟩
   rw[RunL_eq,show Item.lp m8k0 m8b0=Item.lp m8k0 b' by rw[hb']]
   apply hide;intro rhs hrhs
   simp(maxSteps:=4000000) (disch:=first|omega|exact ok_of (by(try simp only[bB.u,seval,cut,hw.a,h1.a,h2.a,h3.a,h4.a,h6.a]);kernel_rfl)|decide) only[bB.u,seval,cut,m8b0,R_q,hlt,i1,hg,hal,hp,ho,hu,hk,hsb,hT,hT',Run_nil,reach,hw.a,h1.a,h2.a,h3.a,h4.a,h6.a]
   repeat'((with_reducible first|refine sp ?_ ?_|fail)<;>intro hx<;>(try simp only[bI.u]at hx)<;>(first|exact xz|(try simp(maxSteps:=4000000) (disch:=first|omega|exact ok_of (by(try simp only[bB.u,seval,cut,hw.a,h1.a,h2.a,h3.a,h4.a,h6.a]);kernel_rfl)|decide) only[bB.u,seval,cut,hx,m8b0,R_q,hlt,i1,hg,hal,hp,ho,hu,hk,hsb,hT,hT',Run_nil,reach,hw.a,h1.a,h2.a,h3.a,h4.a,h6.a])))
   all_goals first|exact xz|(subst hrhs;(subst hb';refine(congrArg (fin _) (Run_lp Q _ _ _ _)).trans ?_;exact congrArg (fin R_q) (RunL_canon (canon_cong (by simp only[bA.u,seval,canon,liveNames,inhOf,keptNames,reach,nub,has,inner,newObjs,keepV,renObj,m8k0,hw.a,h1.a,h2.a,h3.a,h4.a,h6.a]<;>rfl) (by simp only[bA.u,seval,canon,liveNames,inhOf,keptNames,reach,nub,has,inner,newObjs,keepV,renObj,m8k0,hw.a,h1.a,h2.a,h3.a,h4.a,h6.a]<;>rfl) (by simp only[bA.u,seval,canon,liveNames,inhOf,keptNames,reach,nub,has,inner,newObjs,keepV,renObj,m8k0,hw.a,h1.a,h2.a,h3.a,h4.a,h6.a]<;>rfl))))))
 ·rw[if_neg hbad]
  have htb:textB xb=true:=by
   cases h:textB xb
   ·exact absurd (.inl h) hbad
   ·rfl
  have hT:tagOf xb=tb:=Decidable.not_not.1 fun h=>hbad (.inr h)
  rw[htb]at hu
  rw[hT]at hk
  have hT1:(tb != tb)=false:=by simp
  have hT2:(tb==tb)=true:=by simp
  unfold q_st
  rw[hat,hle,e9]
  cases hbx
  all_goals(
  obtain⟨b',hb'⟩:∃b',b'=m8b0:=⟨_,rfl⟩
  rw[RunL_eq,show Item.lp m8k0 m8b0=Item.lp m8k0 b' by rw[hb']]
  apply hide;intro rhs hrhs
  simp(maxSteps:=4000000) (disch:=first|omega|exact ok_of (by(try simp only[bB.u,seval,cut,hw.a,h1.a,h2.a,h3.a,h4.a,h6.a]);kernel_rfl)|decide) only[bB.u,seval,cut,m8b0,R_q,hlt,i1,hg,hal,hp,ho,hu,hk,hsb,hT1,hT2,Run_nil,reach,hw.a,h1.a,h2.a,h3.a,h4.a,h6.a]
  repeat'((with_reducible first|refine sp ?_ ?_|fail)<;>intro hx<;>(try simp only[bI.u]at hx)<;>(first|exact xz|(try simp(maxSteps:=4000000) (disch:=first|omega|exact ok_of (by(try simp only[bB.u,seval,cut,hw.a,h1.a,h2.a,h3.a,h4.a,h6.a]);kernel_rfl)|decide) only[bB.u,seval,cut,hx,m8b0,R_q,hlt,i1,hg,hal,hp,ho,hu,hk,hsb,hT1,hT2,Run_nil,reach,hw.a,h1.a,h2.a,h3.a,h4.a,h6.a])))
  all_goals first|exact xz|(subst hrhs;(subst hb';refine(congrArg (fin _) (Run_lp Q _ _ _ _)).trans ?_;exact congrArg (fin R_q) (RunL_canon (canon_cong (by simp only[bA.u,seval,canon,liveNames,inhOf,keptNames,reach,nub,has,inner,newObjs,keepV,renObj,m8k0,hw.a,h1.a,h2.a,h3.a,h4.a,h6.a]<;>rfl) (by simp only[bA.u,seval,canon,liveNames,inhOf,keptNames,reach,nub,has,inner,newObjs,keepV,renObj,m8k0,hw.a,h1.a,h2.a,h3.a,h4.a,h6.a]<;>rfl) (by simp only[bA.u,seval,canon,liveNames,inhOf,keptNames,reach,nub,has,inner,newObjs,keepV,renObj,m8k0,hw.a,h1.a,h2.a,h3.a,h4.a,h6.a]<;>rfl))))))
theorem q_end (c t:Int) (m:Bool) (w k:MV) (hw:Fs w) (hk:Fs k) (nk:Nat) (lk:∀st,lenV false k st=some (.int .i64 nk)) (d:Dn) (hd:d.length≤2^20) (e:Int) (a:Nat) (ha:1≤a∧a≤2):fin R_q (RunL Q m8k0 m8b0 [.blk 0,.code q_tail] (q_st [.int .i64 c,.int .i64 t,.bool m,w,k] d e a nk))=some (PR.mv (if e≠0 then .er e else .ok d)):=by
 have hlt:decide ((nk:Int)<(nk:Int))=false:=by simp
 have hal:=attrs_length d
 by_cases h:e=0
 ·subst h
  rw[if_neg (by simp)]
  simp only[PR.mv]
  unfold q_st
  obtain⟨b',hb'⟩:∃b',b'=m8b0:=⟨_,rfl⟩
  rw[RunL_eq,show Item.lp m8k0 m8b0=Item.lp m8k0 b' by rw[hb']]
  apply hide;intro rhs hrhs
  simp(maxSteps:=4000000) (disch:=first|omega|exact ok_of (by(try simp only[bB.u,seval,cut,hw.a,hk.a]);kernel_rfl)|decide) only[bB.u,seval,cut,m8b0,R_q,hlt,hal,q_tail,lk,Run_nil,reach,hw.a,hk.a]
  repeat'((with_reducible first|refine sp ?_ ?_|fail)<;>intro hx<;>(try simp only[bI.u]at hx)<;>(first|exact xz|(try simp(maxSteps:=4000000) (disch:=first|omega|exact ok_of (by(try simp only[bB.u,seval,cut,hw.a,hk.a]);kernel_rfl)|decide) only[bB.u,seval,cut,hx,m8b0,R_q,hlt,hal,q_tail,lk,Run_nil,reach,hw.a,hk.a])))
  all_goals first|exact xz|(subst hrhs;rfl)
 ·rw[if_pos h]
  have h':(e==0)=false:=by simpa using h
  have h'':(e != 0)=true:=by simpa using h
  simp only[PR.mv]
  unfold q_st
  obtain⟨b',hb'⟩:∃b',b'=m8b0:=⟨_,rfl⟩
  rw[RunL_eq,show Item.lp m8k0 m8b0=Item.lp m8k0 b' by rw[hb']]
  apply hide;intro rhs hrhs
  simp(maxSteps:=4000000) (disch:=first|omega|exact ok_of (by(try simp only[bB.u,seval,cut,hw.a,hk.a]);kernel_rfl)|decide) only[bB.u,seval,cut,m8b0,R_q,hlt,hal,q_tail,lk,h',h'',Run_nil,reach,hw.a,hk.a]
  repeat'((with_reducible first|refine sp ?_ ?_|fail)<;>intro hx<;>(try simp only[bI.u]at hx)<;>(first|exact xz|(try simp(maxSteps:=4000000) (disch:=first|omega|exact ok_of (by(try simp only[bB.u,seval,cut,hw.a,hk.a]);kernel_rfl)|decide) only[bB.u,seval,cut,hx,m8b0,R_q,hlt,hal,q_tail,lk,h',h'',Run_nil,reach,hw.a,hk.a])))
  all_goals first|exact xz|(subst hrhs;rfl)
theorem wrs_mem {d:Nat}:∀ {ks:List T},(wrs d ks).1=0→∀k∈ks,(wr d k).1=0∧(wr d k).2.length≤(wrs d ks).2.flatten.length
 | [],_,k,hk=>by simp at hk
 |a::r,h,k,hk=>by
  rw[wrs]at h ⊢
  by_cases h1:(wr d a).1=0
  ·rw[if_neg (by simp[h1])]at h ⊢
   by_cases h2:(wrs d r).1=0
   ·rw[if_neg (by simp[h2])]at h ⊢
    simp only[List.flatten_cons,List.length_append]
    rcases List.mem_cons.1 hk with rfl|hk
    ·exact⟨h1,by omega⟩
    ·have:=wrs_mem h2 k hk
     exact⟨this.1,by omega⟩
   ·rw[if_pos h2]at h;exact absurd h h2
  ·rw[if_pos h1]at h;exact absurd h h1
mutual
theorem wr_down {d d':Nat} (hd:d'≤d):∀t:T,(wr d t).1=0→wr d' t=wr d t
 | .mk c t m b ks,h=>by
  obtain⟨h1,_,_,_,_,h2,_⟩:=wr_ok h
  have e:=wrs_down (d:=d+1) (d':=d'+1) (by omega) ks h2
  rw[wr,wr,e]
  unfold wrK
  rw[if_neg (show ¬ 16<d' by omega),if_neg (show ¬ 16<d by omega)]
theorem wrs_down {d d':Nat} (hd:d'≤d):∀ks:List T,(wrs d ks).1=0→wrs d' ks=wrs d ks
 | [],_=>by rw[wrs,wrs]
 |a::r,h=>by
  rw[wrs]at h
  by_cases h1:(wr d a).1=0
  ·rw[if_neg (by simp[h1])]at h
   by_cases h2:(wrs d r).1=0
   ·rw[wrs,wrs,wr_down hd a h1,wrs_down hd r h2]
   ·rw[if_pos h2]at h;exact absurd h h2
  ·rw[if_pos h1]at h;exact absurd h h1
end
theorem wrW_zero {t:T} (h:(wrW t).1=0):(wr 0 t).1=0∧(wr 0 t).2.length≤65536:=by
 unfold wrW at h
 split at h
 ·rename_i h1;exact absurd h h1
 ·rename_i h1
  split at h
  ·exact absurd h (by decide)
  ·exact⟨by simpa using h1,by omega⟩
theorem wrW_is {t:T} (h:(wr 0 t).1=0) (hl:(wr 0 t).2.length≤65536):(wrW t).1=0:=by
 unfold wrW
 rw[if_neg (by simp[h]),if_neg (by omega)]
theorem wrW_kid {c t:Int} {m:Bool} {b:List UInt8} {ks:List T} (h:(wrW (.mk c t m b ks)).1=0) {k:T} (hk:k∈ks):(wrW k).1=0:=by
 obtain⟨h1,h2⟩:=wrW_zero h
 obtain⟨_,a2,a3,a4,a5,a6,a7⟩:=wr_ok h1
 obtain⟨b1,b2⟩:=wrs_mem a6 k hk
 have hm:m=true:=by
  cases m
  ·rw[a5 rfl]at hk;simp at hk
  ·rfl
 have e:=wr_down (d':=0) (Nat.zero_le 1) k b1
 refine wrW_is (by rw[e];exact b1) ?_
 rw[e]
 subst hm
 rw[wr]at h2
 unfold wrK at h2
 rw[if_neg (by omega),if_neg (by rw[a2];simp),if_neg (by rw[a3];omega),if_neg (by rw[a3,a4 rfl];simp),if_neg (by simp[a6]),if_neg a7]at h2
 simp only[if_true,List.length_append]at h2
 have b2':(wr 1 k).2.length≤(wrs (0+1) ks).2.flatten.length:=b2
 omega
def flat (k:T):Prop:=∀o cx tx mx xb xk,two? k=some (o,.mk cx tx mx xb xk)→cx=0→(tx=12∨tx=19)→xk=[]
theorem form_flat {t:Int} {m:Bool} {b:List UInt8} (h:formE 0 t m b=0) (ht:t=12∨t=19∨t=6):m=false:=by
 cases m
 ·rfl
 ·rcases ht with rfl|rfl|rfl<;>exact absurd h (by unfold formE;simp)
theorem flat_of {k:T} (h:(wrW k).1=0):flat k:=by
 intro o cx tx mx xb xk h2 hc ht
 unfold two? at h2
 split at h2
 ·split at h2
  ·rename_i hh
   cases h2
   obtain⟨rfl,rfl,rfl,rfl⟩:=hh
   have v1:=wrW_kid h (List.mem_singleton.2 rfl)
   have v2:=wrW_kid v1 (List.mem_cons_of_mem _ (List.mem_singleton.2 rfl))
   obtain⟨_,_,f,_,g,_,_⟩:=wr_ok (wrW_wr v2).1
   subst hc
   exact g (form_flat f (by rcases ht with h|h<;>simp[h]))
  ·cases h2
 ·cases h2
theorem oid_zero:∃s,Call Q 25 [.agg [.int .i64 0,.int .i64 0,.bool false,.nilsl,.nilsl]]=some (.tup [.str s,.bool false]):=by
 have hv:Rv (.agg [.int .i64 0,.int .i64 0,.bool false,.nilsl,.nilsl]) (.mk 0 0 false [] []):=.mk .nil .nil
 obtain⟨s,h⟩:=c_OidR _ _ hv (by simp[sz,szs])
 have e:oidR (.mk 0 0 false [] [])= .no:=by
  rw[oidR,if_pos (.inr (.inr (by decide)))]
 rw[e]at h
 exact⟨s,h⟩
theorem q_step (K:List Item) (c t:Int) (m:Bool) (w:MV) (hw:Fs w) (l:List MV) (ks:List T) (hl:Rl l ks) (hsz:szs ks≤2^20-64) (hn2:ks.length≤16) (hfl:∀k∈ks,flat k) (s:Dn × Int) (i:Nat) (k:T) (hI:s.1.length≤i) (hg:ks[i]? = some k):
  After (fun s i=>s.1.length≤i) (fun s i=>fin R_q (RunL Q m8k0 m8b0 K (q_st [.int .i64 c,.int .i64 t,.bool m,w,.sl 5 l] s.1 s.2 (if i=0 then 2 else 1) i))) (fun _=>some (PR.er 30).mv)
   (fin R_q (RunL Q m8k0 m8b0 K (q_st [.int .i64 c,.int .i64 t,.bool m,w,.sl 5 l] s.1 s.2 (if i=0 then 2 else 1) i))) (i+1) (gP s k):=by
 obtain⟨hi,hxx⟩:=List.getElem?_eq_some_iff.1 hg
 obtain⟨v,hv,hr⟩:=hl.get hg
 have hll:=hl.length
 have hkm:=List.mem_of_getElem? hg
 have hsk:=szs_mem hkm
 have hfk:=hfl k hkm
 obtain⟨d,e⟩:=s
 simp only at hI ⊢
 have ha:1≤(if i=0 then 2 else 1)∧(if i=0 then 2 else 1)≤2:=by split<;>omega
 generalize(if i=0 then 2 else 1)=a at ha ⊢
 obtain⟨s0,hz⟩:=oid_zero
 obtain⟨c1,t1,m1,b1,k1s⟩:=k
 cases hr with
 | @mk _ _ _ _ w1 k1 _ _ hb1 hk1=>
 have hbad:Call Q 24 [.agg [.int .i64 c1,.int .i64 t1,.bool m1,w1,k1]]=some (.tup [.agg [.int .i64 0,.int .i64 0,.bool false,.nilsl,.nilsl],.agg [.int .i64 0,.int .i64 0,.bool false,.nilsl,.nilsl],.bool false])→two? (.mk c1 t1 m1 b1 k1s)=none→After (fun s i=>s.1.length≤i) (fun s i=>fin R_q (RunL Q m8k0 m8b0 K (q_st [.int .i64 c,.int .i64 t,.bool m,w,.sl 5 l] s.1 s.2 (if i=0 then 2 else 1) i))) (fun _=>some (PR.er 30).mv) (fin R_q (RunL Q m8k0 m8b0 K (q_st [.int .i64 c,.int .i64 t,.bool m,w,.sl 5 l] d e a i))) (i+1) (gP (d,e) (.mk c1 t1 m1 b1 k1s)):=by
  intro hp h2
  unfold gP
  rw[h2]
  exact q_bad K c t m w hw l (by omega) d (by omega) e a ha i c1 t1 m1 w1 k1 hb1.fs hk1.fs hv hp s0 hz
 by_cases h1:c1=0∧t1=17∧k1s.length=1
 rotate_left
 ·refine hbad (pr_1 c1 t1 m1 w1 k1 hb1.fs hk1.fs k1s.length hk1.len (by omega)) ?_
  unfold two?
  split
  ·rename_i heq
   cases heq
   rw[if_neg (by intro h;exact h1 ⟨h.1,h.2.1,rfl⟩)]
  ·rfl
 obtain⟨rfl,rfl,h1⟩:=h1
 obtain⟨y1,rfl⟩:∃x,k1s=[x]:=List.length_eq_one_iff.1 h1
 obtain⟨c2,t2,m2,b2,k2s⟩:=y1
 cases hk1 with
 | @sl _ l1 _ hl1=>
 cases hl1 with
 | @cons _ v1 _ lr _ hv1 hr1=>
 cases hr1
 cases hv1 with
 | @mk _ _ _ _ w2 k2 _ _ hb2 hk2=>
 by_cases h2:c2=0∧t2=16∧k2s.length=2
 rotate_left
 ·refine hbad (pr_2 m1 w1 hb1.fs c2 t2 m2 w2 k2 hb2.fs hk2.fs k2s.length hk2.len (by omega)) ?_
  unfold two?
  split
  ·rename_i heq
   cases heq
   rw[if_neg (by intro h;exact h2 ⟨h.2.2.1,h.2.2.2,rfl⟩)]
  ·rfl
 obtain⟨rfl,rfl,h2⟩:=h2
 obtain⟨to,y2,rfl⟩:∃x y,k2s=[x,y]:=by
  cases k2s with
  |nil=>cases h2
  |cons a r=>exact⟨a,(List.length_eq_one_iff.1 (by simpa using h2)).choose,by rw[←(List.length_eq_one_iff.1 (by simpa using h2):∃x,r=[x]).choose_spec]⟩
 obtain⟨cx,tx,mx,xb,xk⟩:=y2
 cases hk2 with
 | @sl _ l2 _ hl2=>
 cases hl2 with
 | @cons _ vo _ lr2 _ hvo hr2=>
 cases hr2 with
 | @cons _ vx _ lr3 _ hvx hr3=>
 cases hr3
 have htw:two? (.mk 0 17 m1 b1 [.mk 0 16 m2 b2 [to,.mk cx tx mx xb xk]])=some (to,.mk cx tx mx xb xk):=by
  simp[two?]
 have hflat:=hfk _ _ _ _ _ _ htw
 simp only[sz,szs]at hsk
 obtain⟨so,ho⟩:=c_OidR vo to hvo (by omega)
 obtain⟨c3,t3,m3,b3,k3s⟩:=to
 cases hvo with
 | @mk _ _ _ _ wo ko _ _ po qo=>
 cases hvx with
 | @mk _ _ _ _ wx kx _ _ hbx hkx=>
 have hp:=pr_3 m1 w1 hb1.fs m2 w2 hb2.fs c3 t3 m3 wo ko po.fs qo.fs cx tx mx wx kx hbx.fs hkx.fs _ rfl
 unfold gP
 rw[htw]
 dsimp only
 have hE:∀q2:Bool,((decide (cx=0)&&(decide (tx=12)||decide (tx=19)))&&q2)=false→∀s:List UInt8,Call Q 25 [.agg [.int .i64 c3,.int .i64 t3,.bool m3,wo,ko]]=some (.tup [.str s,.bool q2])→fin R_q (RunL Q m8k0 m8b0 K (q_st [.int .i64 c,.int .i64 t,.bool m,w,.sl 5 l] d e a i))=some (PR.er 30).mv:=by
  intro q2 hq s hs
  exact q_no K c t m w hw l (by omega) d (by omega) e a ha i 0 17 m1 w1 _ hb1.fs (sl_fs _) hv c3 t3 m3 wo ko po.fs qo.fs cx tx mx wx kx hbx.fs hkx.fs _ _ hq hp s hs
 cases hoid:oidR (.mk c3 t3 m3 b3 k3s)with
 |no=>
  rw[hoid]at ho
  exact hE false (by simp) so ho
 |ok nm=>
  rw[hoid]at ho
  dsimp only
  by_cases hX:cx=0∧(tx=12∨tx=19)∧xk=[]
  ·rw[if_pos hX]
   have hq1:(decide (cx=0)&&(decide (tx=12)||decide (tx=19)))=true:=by
    obtain⟨rfl,h|h,_⟩:=hX<;>simp[h]
   rw[hq1]at hp
   have hy:=q_yes K c t m w hw l (by omega) d (by omega) e a ha i 0 17 m1 w1 _ hb1.fs (sl_fs _) hv c3 t3 m3 wo ko po.fs qo.fs cx tx mx wx kx xb (by omega) hbx hkx.fs hp nm ho
   exact⟨by simp;omega,hy⟩
  ·rw[if_neg hX]
   refine hE true ?_ nm ho
   rw[Bool.and_true]
   cases hq:(decide (cx=0)&&(decide (tx=12)||decide (tx=19)))
   ·rfl
   ·exfalso
    simp only[Bool.and_eq_true,Bool.or_eq_true,decide_eq_true_eq]at hq
    exact hX ⟨hq.1,hq.2,hflat hq.1 hq.2⟩
theorem c_ParseDNR (v:MV) (t:T) (hv:Rv v t) (hs:sz t≤2^20-64):Call Q 8 [v]=some (pdn t).mv:=by
 have hcan:=c_can v t hv (by omega)
 obtain⟨c,tg,m,b,ks⟩:=t
 cases hv with
 | @mk _ _ _ _ w k _ _ hb hk=>
 rw[sz]at hs
 have hw:=hb.fs
 have hkf:=hk.fs
 have lk:=hk.len
 have hkl:=szs_len ks
 rw[pdn]
 by_cases h:(wrW (.mk c tg m b ks)).1≠0∨c≠0∨tg≠16∨16<ks.length
 ·rw[if_pos h]
  simp only[PR.mv]
  by_cases h1:(wrW (.mk c tg m b ks)).1=0
  rotate_left
  ·rw[show decide ((wrW (.mk c tg m b ks)).1=0)=false by simpa using h1]at hcan
   rw[Call_fn Q (m:=m8) rfl rfl]
   apply hide;intro rhs hrhs
   simp(maxSteps:=4000000) (disch:=first|omega|exact ok_of (by(try simp only[bB.u,seval,cut,hw.a,hkf.a]);kernel_rfl)|decide) only[bB.u,seval,cut,m8,hcan,lk,Run_nil,reach,hw.a,hkf.a]
   repeat'((with_reducible first|refine sp ?_ ?_|fail)<;>intro hx<;>(try simp only[bI.u]at hx)<;>(first|exact xz|(try simp(maxSteps:=4000000) (disch:=first|omega|exact ok_of (by(try simp only[bB.u,seval,cut,hw.a,hkf.a]);kernel_rfl)|decide) only[bB.u,seval,cut,hx,m8,hcan,lk,Run_nil,reach,hw.a,hkf.a])))
   all_goals first|exact xz|(subst hrhs;rfl)
  rw[show decide ((wrW (.mk c tg m b ks)).1=0)=true by simpa using h1]at hcan
  by_cases h2:c=0
  rotate_left
  ·have b1:(c != 0)=true:=by simpa using h2
   have b2:(c==0)=false:=by simpa using h2
   rw[Call_fn Q (m:=m8) rfl rfl]
   apply hide;intro rhs hrhs
   simp(maxSteps:=4000000) (disch:=first|omega|exact ok_of (by(try simp only[bB.u,seval,cut,hw.a,hkf.a]);kernel_rfl)|decide) only[bB.u,seval,cut,m8,hcan,lk,b1,b2,Run_nil,reach,hw.a,hkf.a]
   repeat'((with_reducible first|refine sp ?_ ?_|fail)<;>intro hx<;>(try simp only[bI.u]at hx)<;>(first|exact xz|(try simp(maxSteps:=4000000) (disch:=first|omega|exact ok_of (by(try simp only[bB.u,seval,cut,hw.a,hkf.a]);kernel_rfl)|decide) only[bB.u,seval,cut,hx,m8,hcan,lk,b1,b2,Run_nil,reach,hw.a,hkf.a])))
   all_goals first|exact xz|(subst hrhs;rfl)
  subst h2
  by_cases h3:tg=16
  rotate_left
  ·have b1:(tg != 16)=true:=by simpa using h3
   have b2:(tg==16)=false:=by simpa using h3
   rw[Call_fn Q (m:=m8) rfl rfl]
   apply hide;intro rhs hrhs
   simp(maxSteps:=4000000) (disch:=first|omega|exact ok_of (by(try simp only[bB.u,seval,cut,hw.a,hkf.a]);kernel_rfl)|decide) only[bB.u,seval,cut,m8,hcan,lk,b1,b2,Run_nil,reach,hw.a,hkf.a]
   repeat'((with_reducible first|refine sp ?_ ?_|fail)<;>intro hx<;>(try simp only[bI.u]at hx)<;>(first|exact xz|(try simp(maxSteps:=4000000) (disch:=first|omega|exact ok_of (by(try simp only[bB.u,seval,cut,hw.a,hkf.a]);kernel_rfl)|decide) only[bB.u,seval,cut,hx,m8,hcan,lk,b1,b2,Run_nil,reach,hw.a,hkf.a])))
   all_goals first|exact xz|(subst hrhs;rfl)
  subst h3
  have b1:decide (16<(ks.length:Int))=true:=by
   rcases h with h|h|h|h
   ·exact absurd h1 h
   ·exact absurd rfl h
   ·exact absurd rfl h
   ·simp;omega
  rw[Call_fn Q (m:=m8) rfl rfl]
  apply hide;intro rhs hrhs
  simp(maxSteps:=4000000) (disch:=first|omega|exact ok_of (by(try simp only[bB.u,seval,cut,hw.a,hkf.a]);kernel_rfl)|decide) only[bB.u,seval,cut,m8,hcan,lk,b1,Run_nil,reach,hw.a,hkf.a]
  repeat'((with_reducible first|refine sp ?_ ?_|fail)<;>intro hx<;>(try simp only[bI.u]at hx)<;>(first|exact xz|(try simp(maxSteps:=4000000) (disch:=first|omega|exact ok_of (by(try simp only[bB.u,seval,cut,hw.a,hkf.a]);kernel_rfl)|decide) only[bB.u,seval,cut,hx,m8,hcan,lk,b1,Run_nil,reach,hw.a,hkf.a])))
  all_goals first|exact xz|(subst hrhs;rfl)
 rw[if_neg h]
 have h1:(wrW (.mk c tg m b ks)).1=0:=Decidable.not_not.1 fun x=>h (.inl x)
 have h2:c=0:=Decidable.not_not.1 fun x=>h (.inr (.inl x))
 have h3:tg=16:=Decidable.not_not.1 fun x=>h (.inr (.inr (.inl x)))
 have h4:ks.length≤16:=Nat.le_of_not_lt fun x=>h (.inr (.inr (.inr x)))
 subst h2;subst h3
 rw[show decide ((wrW (.mk 0 16 m b ks)).1=0)=true by simpa using h1]at hcan
 have b1:decide (16<(ks.length:Int))=false:=by simp;omega
 have loop:fin R_q (RunL Q m8k0 m8b0 [.blk 0,.code q_tail] (q_st [.int .i64 0,.int .i64 16,.bool m,w,k] [] 0 2 0))=some (PR.mv (match foldE gP ([],0) ks with
  | .inr _=>.er 30
  | .inl s=>if s.2≠0 then .er s.2 else .ok s.1)):=by
  cases hk with
  |nil=>exact q_end 0 16 m w .nilsl hw nil_fs 0 (fun _=>rfl) [] (by simp) 0 2 (by omega)
  | @sl _ l _ hll=>
   refine loopR ks gP (fun s i=>fin R_q (RunL Q m8k0 m8b0 [.blk 0,.code q_tail] (q_st [.int .i64 0,.int .i64 16,.bool m,w,.sl 5 l] s.1 s.2 (if i=0 then 2 else 1) i))) (fun _=>some (PR.er 30).mv) (fun s i=>s.1.length≤i)
    (fun s i k hI hg=>q_step _ 0 16 m w hw l ks hll (by omega) h4 (fun k hk=>flat_of (wrW_kid h1 hk)) s i k hI hg) ([],0) (by simp) rfl ?_ ?_
   ·intro s hf hI
    rw[hf]
    exact q_end 0 16 m w _ hw (sl_fs _) ks.length lk s.1 (by omega) s.2 _ (by split<;>omega)
   ·intro u hf
    rw[hf]
 unfold q_st at loop
 rw[Call_fn Q (m:=m8) rfl rfl]
 apply hide;intro rhs hrhs
 simp(maxSteps:=4000000) (disch:=first|omega|exact ok_of (by(try simp only[bB.u,seval,cut,hw.a,hkf.a]);kernel_rfl)|decide) only[bB.u,seval,cut,m8,hcan,lk,b1,Run_loop,Run_nil,reach,hw.a,hkf.a]
 repeat'((with_reducible first|refine sp ?_ ?_|fail)<;>intro hx<;>(try simp only[bI.u]at hx)<;>(first|exact xz|(try simp(maxSteps:=4000000) (disch:=first|omega|exact ok_of (by(try simp only[bB.u,seval,cut,hw.a,hkf.a]);kernel_rfl)|decide) only[bB.u,seval,cut,hx,m8,hcan,lk,b1,Run_loop,Run_nil,reach,hw.a,hkf.a])))
 all_goals first|exact xz|(subst hrhs;exact(congrArg (fin _) (RunL_canon (canon_cong (by simp only[bA.u,seval,canon,liveNames,inhOf,keptNames,reach,nub,has,inner,newObjs,keepV,renObj,m8k0,hw.a,hkf.a]<;>rfl) (by simp only[bA.u,seval,canon,liveNames,inhOf,keptNames,reach,nub,has,inner,newObjs,keepV,renObj,m8k0,hw.a,hkf.a]<;>rfl) (by simp only[bA.u,seval,canon,liveNames,inhOf,keptNames,reach,nub,has,inner,newObjs,keepV,renObj,m8k0,hw.a,hkf.a]<;>rfl)))).trans loop)
end Go.Mini.Nm
