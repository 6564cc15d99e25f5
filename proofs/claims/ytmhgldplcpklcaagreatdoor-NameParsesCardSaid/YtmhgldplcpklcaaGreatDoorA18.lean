/- any value's DN and any DN's value are the document's: the law by that interpreter (part 18): what the program's functions answer, or plain laws of it; no conditions. -/
import Derived.Test.YtmhgldplcpklcaaGreatDoorA17
import Derived.Test.YtmhgldplcpklcaaGreatDoorA12
set_option linter.all false
namespace Go.Mini.Nm
open Go Go.Mini Go.Proofs.YtmhgldplcpklcaaGreatDoor
set_option maxRecDepth 100000
set_option maxHeartbeats 8000000
mutual
theorem Rv_mvT:∀(t:T) (d:Nat),(wr d t).1=0→Rv (mvT t) t
 | .mk c tg m b ks,d,h=>by
  obtain⟨_,_,_,hb,_,hk,_⟩:=wr_ok h
  have hl:=Rl_mvTs ks (d+1) hk
  rw[mvT_eq]
  refine .mk ?_ ?_
  ·cases m
   ·exact .bs b
   ·rw[hb rfl];exact .nil
  ·cases ks with
   |nil=>exact .nil
   |cons k r=>exact .sl hl
theorem Rl_mvTs:∀(ts:List T) (d:Nat),(wrs d ts).1=0→Rl (mvTs ts) ts
 | [],_,_=>.nil
 |k::r,d,h=>by
  rw[wrs]at h
  by_cases h1:(wr d k).1=0
  ·rw[if_neg (by simp[h1])]at h
   by_cases h2:(wrs d r).1=0
   ·exact .cons (Rv_mvT k d h1) (Rl_mvTs r d h2)
   ·rw[if_pos h2]at h;exact absurd h h2
  ·rw[if_pos h1]at h;exact absurd h h1
end
theorem mvK_fs {ks:List T}:Fs (mvK ks):=by
 cases ks
 ·exact nil_fs
 ·exact sl_fs _
mutual
theorem few_sz (d:Nat) (left:Int):∀t:T,0≤fewT d left t→(sz t:Int)≤16*(left-fewT d left t)
 | .mk c t m b ks=>by
  intro h
  rw[fewT]at h ⊢
  by_cases h1:d=0∨left≤0∨left≤b.length
  ·rw[if_pos h1]at h;exact absurd h (by decide)
  ·rw[if_neg h1]at h ⊢
   have:=fews_sz (d-1) (left-(1+b.length)) ks h
   rw[sz]
   omega
theorem fews_sz (d:Nat) (left:Int):∀ts:List T,0≤fewL d left ts→(szs ts:Int)≤16*(left-fewL d left ts)
 | []=>by intro _;rw[fewL,szs];omega
 |k::r=>by
  intro h
  rw[fewL]at h ⊢
  by_cases h1:fewT d left k<0
  ·rw[if_pos h1]at h;exact absurd h (by decide)
  ·rw[if_neg h1]at h ⊢
   have a:=few_sz d left k (by omega)
   have b:=fews_sz d (fewT d left k) r h
   rw[szs]
   omega
end
theorem pdn_er {t:T} {e:Int} (h:pdn t= .er e):e≠0:=by
 obtain⟨c,tg,m,b,ks⟩:=t
 rw[pdn]at h
 split at h
 ·cases h;decide
 ·split at h
  ·cases h;decide
  ·split at h
   ·rename_i hs;cases h;exact hs
   ·cases h
theorem dnS_er {d:Dn} {e:Int} (h:dnS d= .er e):e≠0:=by
 unfold dnS at h
 split at h
 ·cases h;decide
 ·split at h
  ·cases h;decide
  ·split at h
   ·cases h;decide
   ·cases h
theorem dnS_form {d:Dn} {x:T} (h:dnS d= .ok x):∃ks,x= .mk 0 16 true [] ks:=by
 unfold dnS at h
 split at h
 ·cases h
 ·split at h
  ·cases h
  ·split at h
   ·cases h
   ·cases h;exact⟨_,rfl⟩
theorem gP_lens:∀(ks:List T) (s s':Dn × Int),foldE gP s ks= .inl s'→okLens s.1→szs ks≤900000→s.1.length+ks.length<1000000→(∀k∈ks,∀o x n,two? k=some (o,x)→oidR o= .ok n→n.length<1000000)→okLens s'.1
 | [],s,s',h,hl,_,_,_=>by cases h;exact hl
 |k::r,s,s',h,hl,hs,hn,ho=>by
  rw[foldE_cons]at h
  cases hg:gP s k with
  |inr u=>rw[hg]at h;cases h
  |inl s1=>
  rw[hg]at h
  rw[szs]at hs
  rw[List.length_cons]at hn
  unfold gP at hg
  split at hg
  ·cases hg
  ·rename_i o x h2
   split at hg
   ·cases hg
   ·rename_i n hno
    split at hg
    rename_i cx tx mx xb kx
    split at hg
    rotate_left
    ·cases hg
    cases hg
    have hnl:=ho k (List.mem_cons_self ..) o _ n h2 hno
    refine gP_lens r _ s' h ⟨by simp only[List.length_append,List.length_cons,List.length_nil];omega,fun a ha=>?_⟩ (by omega) (by simp only[List.length_append,List.length_cons,List.length_nil];omega) fun x hx=>ho x (List.mem_cons_of_mem _ hx)
    rcases List.mem_append.1 ha with ha|ha
    ·exact hl.2 a ha
    ·rw[List.mem_singleton]at ha
     subst ha
     refine⟨hnl,?_⟩
     have hk:xb.length≤sz k:=by
      unfold two? at h2
      split at h2
      ·split at h2
       ·cases h2
        simp only[sz,szs];omega
       ·cases h2
      ·cases h2
     simp only
     omega
theorem oidR_len {o:T} {n:List UInt8} (h:oidR o= .ok n):n.length<1000000:=by
 obtain⟨c,t,m,b,ks⟩:=o
 rw[oidR]at h
 split at h
 ·cases h
 ·unfold oidG at h
  split at h
  ·cases h
  ·rename_i s hf
   split at h
   ·cases h
   ·rename_i h20
    cases h
    have h1:=gO_small b ([],0) s (by simp) hf
    have h2:=join_small s.1 h1
    omega
theorem pdn_lens {t:T} {d:Dn} (h:pdn t= .ok d) (hs:sz t≤900000):okLens d:=by
 obtain⟨c,tg,m,b,ks⟩:=t
 rw[pdn]at h
 split at h
 ·cases h
 rename_i hc
 split at h
 ·cases h
 rename_i s hf
 split at h
 ·cases h
 cases h
 rw[sz]at hs
 have h4:ks.length≤16:=Nat.le_of_not_lt fun x=>hc (.inr (.inr (.inr x)))
 exact gP_lens ks ([],0) s hf ⟨by simp,by simp⟩ (by omega) (by simp;omega) fun k _ o x n _ h2=>oidR_len h2
theorem c_anchor:Call Q 4 []=some (.bool true):=Call_iff.2 ⟨4000,by kernel_rfl⟩
theorem l_few (c tg:Int) (m:Bool) (w k:MV) (hw:Fs w) (hk:Fs k) (d:Dn) (r:Int) (hF:Call Q 5 [.agg [.int .i64 c,.int .i64 tg,.bool m,w,k],.int .i64 30,.int .i64 3000]=some (.int .i64 r)) (hr:r<0):Call Q 3 [.agg [.int .i64 c,.int .i64 tg,.bool m,w,k],.sl 2 (attrs d)]=some (.bool true):=by
 have hA:=c_anchor
 have hr':=decide_eq_true hr
 rw[Call_fn Q (m:=m3) rfl rfl]
 apply hide;intro rhs hrhs
 simp(maxSteps:=4000000) (disch:=first|omega|exact ok_of (by(try simp only[bB.u,seval,cut,hw.a,hk.a]);kernel_rfl)|decide) only[bB.u,seval,cut,m3,hA,hF,hr',Run_nil,reach,hw.a,hk.a]
 repeat'((with_reducible first|refine sp ?_ ?_|fail)<;>intro hx<;>(try simp only[bI.u]at hx)<;>(first|exact xz|(try simp(maxSteps:=4000000) (disch:=first|omega|exact ok_of (by(try simp only[bB.u,seval,cut,hw.a,hk.a]);kernel_rfl)|decide) only[bB.u,seval,cut,hx,m3,hA,hF,hr',Run_nil,reach,hw.a,hk.a])))
 all_goals first|exact xz|(subst hrhs;rfl)
theorem l_short (c tg:Int) (m:Bool) (w k:MV) (hw:Fs w) (hk:Fs k) (d:Dn) (r:Int) (hF:Call Q 5 [.agg [.int .i64 c,.int .i64 tg,.bool m,w,k],.int .i64 30,.int .i64 3000]=some (.int .i64 r)) (hr:¬r<0) (hS:Call Q 6 [.agg [.int .i64 0,.str [],.sl 2 (attrs d)]]=some (.bool false)):Call Q 3 [.agg [.int .i64 c,.int .i64 tg,.bool m,w,k],.sl 2 (attrs d)]=some (.bool true):=by
 have hA:=c_anchor
 have hr':=decide_eq_false hr
 rw[Call_fn Q (m:=m3) rfl rfl]
 apply hide;intro rhs hrhs
 simp(maxSteps:=4000000) (disch:=first|omega|exact ok_of (by(try simp only[bB.u,seval,cut,hw.a,hk.a]);kernel_rfl)|decide) only[bB.u,seval,cut,m3,hA,hF,hr',hS,Run_nil,reach,hw.a,hk.a]
 repeat'((with_reducible first|refine sp ?_ ?_|fail)<;>intro hx<;>(try simp only[bI.u]at hx)<;>(first|exact xz|(try simp(maxSteps:=4000000) (disch:=first|omega|exact ok_of (by(try simp only[bB.u,seval,cut,hw.a,hk.a]);kernel_rfl)|decide) only[bB.u,seval,cut,hx,m3,hA,hF,hr',hS,Run_nil,reach,hw.a,hk.a])))
 all_goals first|exact xz|(subst hrhs;rfl)
theorem l_er_er (c tg:Int) (m:Bool) (w k:MV) (hw:Fs w) (hk:Fs k) (d:Dn) (r:Int) (hF:Call Q 5 [.agg [.int .i64 c,.int .i64 tg,.bool m,w,k],.int .i64 30,.int .i64 3000]=some (.int .i64 r)) (hr:¬r<0) (hS:Call Q 6 [.agg [.int .i64 0,.str [],.sl 2 (attrs d)]]=some (.bool true)) (w' k':MV) (hw':Fs w') (hk':Fs k') (hPl:Call Q 9 [.agg [.int .i64 c,.int .i64 tg,.bool m,w,k]]=some (.agg [.int .i64 c,.int .i64 tg,.bool m,w',k'])) (e:Int) (he:e≠0) (hP:Call Q 7 [.agg [.int .i64 c,.int .i64 tg,.bool m,w,k]]=some (.tup [.sl 2 [],.int .i64 e])) (hPR:Call Q 8 [.agg [.int .i64 c,.int .i64 tg,.bool m,w',k']]=some (.tup [.sl 2 [],.int .i64 e])) (hAa:Call Q 12 [.sl 2 []]=some (.sl 2 [])) (hSd:Call Q 13 [.sl 2 [],.sl 2 []]=some (.bool true)) (hAt:Call Q 12 [.sl 2 (attrs d)]=some (.sl 2 (attrs d))) (g:Int) (hg:g≠0) (hD:Call Q 10 [.sl 2 (attrs d)]=some (.tup [.agg [.int .i64 0,.int .i64 0,.bool false,.nilsl,.nilsl],.int .i64 g])) (hDR:Call Q 11 [.sl 2 (attrs d)]=some (.tup [.agg [.int .i64 0,.int .i64 0,.bool false,.nilsl,.nilsl],.int .i64 g])) (hSm:Call Q 14 [.agg [.int .i64 0,.int .i64 0,.bool false,.nilsl,.nilsl],.agg [.int .i64 0,.int .i64 0,.bool false,.nilsl,.nilsl]]=some (.bool true)) (h7b:Call Q 7 [.agg [.int .i64 0,.int .i64 0,.bool false,.nilsl,.nilsl]]=some (.tup [.sl 2 [],.int .i64 30])):Call Q 3 [.agg [.int .i64 c,.int .i64 tg,.bool m,w,k],.sl 2 (attrs d)]=some (.bool true):=by
 have hA:=c_anchor
 have hr':=decide_eq_false hr
 have he0:(e==0)=false:=by simpa using he
 have he1:(e != 0)=true:=by simpa using he
 have he2:(e==e)=true:=by simp
 have he3:(e != e)=false:=by simp
 have hg0:(g==0)=false:=by simpa using hg
 have hg1:(g != 0)=true:=by simpa using hg
 have hg2:(g==g)=true:=by simp
 have hg3:(g != g)=false:=by simp
 rw[Call_fn Q (m:=m3) rfl rfl]
 apply hide;intro rhs hrhs
 simp(maxSteps:=4000000) (disch:=first|omega|exact ok_of (by(try simp only[bB.u,seval,cut,hw.a,hk.a,hw'.a,hk'.a]);kernel_rfl)|decide) only[bB.u,seval,cut,m3,hA,hF,hr',hS,hPl,hP,hPR,hD,hAt,hDR,hAa,hSd,hSm,h7b,he0,he1,he2,he3,hg0,hg1,hg2,hg3,Run_nil,reach,hw.a,hk.a,hw'.a,hk'.a]
 repeat'((with_reducible first|refine sp ?_ ?_|fail)<;>intro hx<;>(try simp only[bI.u]at hx)<;>(first|exact xz|(try simp(maxSteps:=4000000) (disch:=first|omega|exact ok_of (by(try simp only[bB.u,seval,cut,hw.a,hk.a,hw'.a,hk'.a]);kernel_rfl)|decide) only[bB.u,seval,cut,hx,m3,hA,hF,hr',hS,hPl,hP,hPR,hD,hAt,hDR,hAa,hSd,hSm,h7b,he0,he1,he2,he3,hg0,hg1,hg2,hg3,Run_nil,reach,hw.a,hk.a,hw'.a,hk'.a])))
 all_goals first|exact xz|(subst hrhs;rfl)
theorem l_er_ok (c tg:Int) (m:Bool) (w k:MV) (hw:Fs w) (hk:Fs k) (d:Dn) (r:Int) (hF:Call Q 5 [.agg [.int .i64 c,.int .i64 tg,.bool m,w,k],.int .i64 30,.int .i64 3000]=some (.int .i64 r)) (hr:¬r<0) (hS:Call Q 6 [.agg [.int .i64 0,.str [],.sl 2 (attrs d)]]=some (.bool true)) (w' k':MV) (hw':Fs w') (hk':Fs k') (hPl:Call Q 9 [.agg [.int .i64 c,.int .i64 tg,.bool m,w,k]]=some (.agg [.int .i64 c,.int .i64 tg,.bool m,w',k'])) (e:Int) (he:e≠0) (hP:Call Q 7 [.agg [.int .i64 c,.int .i64 tg,.bool m,w,k]]=some (.tup [.sl 2 [],.int .i64 e])) (hPR:Call Q 8 [.agg [.int .i64 c,.int .i64 tg,.bool m,w',k']]=some (.tup [.sl 2 [],.int .i64 e])) (hAa:Call Q 12 [.sl 2 []]=some (.sl 2 [])) (hSd:Call Q 13 [.sl 2 [],.sl 2 []]=some (.bool true)) (hAt:Call Q 12 [.sl 2 (attrs d)]=some (.sl 2 (attrs d))) (kd:MV) (hkd:Fs kd) (hD:Call Q 10 [.sl 2 (attrs d)]=some (.tup [.agg [.int .i64 0,.int .i64 16,.bool true,.nilsl,kd],.int .i64 0])) (hDR:Call Q 11 [.sl 2 (attrs d)]=some (.tup [.agg [.int .i64 0,.int .i64 16,.bool true,.nilsl,kd],.int .i64 0])) (hSm:Call Q 14 [.agg [.int .i64 0,.int .i64 16,.bool true,.nilsl,kd],.agg [.int .i64 0,.int .i64 16,.bool true,.nilsl,kd]]=some (.bool true)) (h7b:Call Q 7 [.agg [.int .i64 0,.int .i64 16,.bool true,.nilsl,kd]]=some (.tup [.sl 2 (attrs d),.int .i64 0])) (hSn:Call Q 15 [.sl 2 (attrs d),.sl 2 (attrs d)]=some (.bool true)):Call Q 3 [.agg [.int .i64 c,.int .i64 tg,.bool m,w,k],.sl 2 (attrs d)]=some (.bool true):=by
 have hA:=c_anchor
 have hr':=decide_eq_false hr
 have he0:(e==0)=false:=by simpa using he
 have he1:(e != 0)=true:=by simpa using he
 have he2:(e==e)=true:=by simp
 have he3:(e != e)=false:=by simp
 rw[Call_fn Q (m:=m3) rfl rfl]
 apply hide;intro rhs hrhs
 simp(maxSteps:=4000000) (disch:=first|omega|exact ok_of (by(try simp only[bB.u,seval,cut,hw.a,hk.a,hw'.a,hk'.a,hkd.a]);kernel_rfl)|decide) only[bB.u,seval,cut,m3,hA,hF,hr',hS,hPl,hP,hPR,hD,hAt,hDR,hAa,hSd,hSm,h7b,he0,he1,he2,he3,hSn,Run_nil,reach,hw.a,hk.a,hw'.a,hk'.a,hkd.a]
 repeat'((with_reducible first|refine sp ?_ ?_|fail)<;>intro hx<;>(try simp only[bI.u]at hx)<;>(first|exact xz|(try simp(maxSteps:=4000000) (disch:=first|omega|exact ok_of (by(try simp only[bB.u,seval,cut,hw.a,hk.a,hw'.a,hk'.a,hkd.a]);kernel_rfl)|decide) only[bB.u,seval,cut,hx,m3,hA,hF,hr',hS,hPl,hP,hPR,hD,hAt,hDR,hAa,hSd,hSm,h7b,he0,he1,he2,he3,hSn,Run_nil,reach,hw.a,hk.a,hw'.a,hk'.a,hkd.a])))
 all_goals first|exact xz|(subst hrhs;rfl)
theorem l_ok_er (c tg:Int) (m:Bool) (w k:MV) (hw:Fs w) (hk:Fs k) (d:Dn) (r:Int) (hF:Call Q 5 [.agg [.int .i64 c,.int .i64 tg,.bool m,w,k],.int .i64 30,.int .i64 3000]=some (.int .i64 r)) (hr:¬r<0) (hS:Call Q 6 [.agg [.int .i64 0,.str [],.sl 2 (attrs d)]]=some (.bool true)) (w' k':MV) (hw':Fs w') (hk':Fs k') (hPl:Call Q 9 [.agg [.int .i64 c,.int .i64 tg,.bool m,w,k]]=some (.agg [.int .i64 c,.int .i64 tg,.bool m,w',k'])) (x:Dn) (kt:MV) (hkt:Fs kt) (hDa:Call Q 10 [.sl 2 (attrs x)]=some (.tup [.agg [.int .i64 0,.int .i64 16,.bool true,.nilsl,kt],.int .i64 0])) (hSb:Call Q 14 [.agg [.int .i64 0,.int .i64 16,.bool true,.nilsl,kt],.agg [.int .i64 c,.int .i64 tg,.bool m,w',k']]=some (.bool true)) (hP:Call Q 7 [.agg [.int .i64 c,.int .i64 tg,.bool m,w,k]]=some (.tup [.sl 2 (attrs x),.int .i64 0])) (hPR:Call Q 8 [.agg [.int .i64 c,.int .i64 tg,.bool m,w',k']]=some (.tup [.sl 2 (attrs x),.int .i64 0])) (hAa:Call Q 12 [.sl 2 (attrs x)]=some (.sl 2 (attrs x))) (hSd:Call Q 13 [.sl 2 (attrs x),.sl 2 (attrs x)]=some (.bool true)) (hAt:Call Q 12 [.sl 2 (attrs d)]=some (.sl 2 (attrs d))) (g:Int) (hg:g≠0) (hD:Call Q 10 [.sl 2 (attrs d)]=some (.tup [.agg [.int .i64 0,.int .i64 0,.bool false,.nilsl,.nilsl],.int .i64 g])) (hDR:Call Q 11 [.sl 2 (attrs d)]=some (.tup [.agg [.int .i64 0,.int .i64 0,.bool false,.nilsl,.nilsl],.int .i64 g])) (hSm:Call Q 14 [.agg [.int .i64 0,.int .i64 0,.bool false,.nilsl,.nilsl],.agg [.int .i64 0,.int .i64 0,.bool false,.nilsl,.nilsl]]=some (.bool true)) (h7b:Call Q 7 [.agg [.int .i64 0,.int .i64 0,.bool false,.nilsl,.nilsl]]=some (.tup [.sl 2 [],.int .i64 30])):Call Q 3 [.agg [.int .i64 c,.int .i64 tg,.bool m,w,k],.sl 2 (attrs d)]=some (.bool true):=by
 have hA:=c_anchor
 have hr':=decide_eq_false hr
 have hg0:(g==0)=false:=by simpa using hg
 have hg1:(g != 0)=true:=by simpa using hg
 have hg2:(g==g)=true:=by simp
 have hg3:(g != g)=false:=by simp
 rw[Call_fn Q (m:=m3) rfl rfl]
 apply hide;intro rhs hrhs
 simp(maxSteps:=4000000) (disch:=first|omega|exact ok_of (by(try simp only[bB.u,seval,cut,hw.a,hk.a,hw'.a,hk'.a,hkt.a]);kernel_rfl)|decide) only[bB.u,seval,cut,m3,hA,hF,hr',hS,hPl,hP,hPR,hD,hAt,hDR,hAa,hSd,hSm,h7b,hDa,hSb,hg0,hg1,hg2,hg3,Run_nil,reach,hw.a,hk.a,hw'.a,hk'.a,hkt.a]
 repeat'((with_reducible first|refine sp ?_ ?_|fail)<;>intro hx<;>(try simp only[bI.u]at hx)<;>(first|exact xz|(try simp(maxSteps:=4000000) (disch:=first|omega|exact ok_of (by(try simp only[bB.u,seval,cut,hw.a,hk.a,hw'.a,hk'.a,hkt.a]);kernel_rfl)|decide) only[bB.u,seval,cut,hx,m3,hA,hF,hr',hS,hPl,hP,hPR,hD,hAt,hDR,hAa,hSd,hSm,h7b,hDa,hSb,hg0,hg1,hg2,hg3,Run_nil,reach,hw.a,hk.a,hw'.a,hk'.a,hkt.a])))
 all_goals first|exact xz|(subst hrhs;rfl)
theorem l_ok_ok (c tg:Int) (m:Bool) (w k:MV) (hw:Fs w) (hk:Fs k) (d:Dn) (r:Int) (hF:Call Q 5 [.agg [.int .i64 c,.int .i64 tg,.bool m,w,k],.int .i64 30,.int .i64 3000]=some (.int .i64 r)) (hr:¬r<0) (hS:Call Q 6 [.agg [.int .i64 0,.str [],.sl 2 (attrs d)]]=some (.bool true)) (w' k':MV) (hw':Fs w') (hk':Fs k') (hPl:Call Q 9 [.agg [.int .i64 c,.int .i64 tg,.bool m,w,k]]=some (.agg [.int .i64 c,.int .i64 tg,.bool m,w',k'])) (x:Dn) (kt:MV) (hkt:Fs kt) (hDa:Call Q 10 [.sl 2 (attrs x)]=some (.tup [.agg [.int .i64 0,.int .i64 16,.bool true,.nilsl,kt],.int .i64 0])) (hSb:Call Q 14 [.agg [.int .i64 0,.int .i64 16,.bool true,.nilsl,kt],.agg [.int .i64 c,.int .i64 tg,.bool m,w',k']]=some (.bool true)) (hP:Call Q 7 [.agg [.int .i64 c,.int .i64 tg,.bool m,w,k]]=some (.tup [.sl 2 (attrs x),.int .i64 0])) (hPR:Call Q 8 [.agg [.int .i64 c,.int .i64 tg,.bool m,w',k']]=some (.tup [.sl 2 (attrs x),.int .i64 0])) (hAa:Call Q 12 [.sl 2 (attrs x)]=some (.sl 2 (attrs x))) (hSd:Call Q 13 [.sl 2 (attrs x),.sl 2 (attrs x)]=some (.bool true)) (hAt:Call Q 12 [.sl 2 (attrs d)]=some (.sl 2 (attrs d))) (kd:MV) (hkd:Fs kd) (hD:Call Q 10 [.sl 2 (attrs d)]=some (.tup [.agg [.int .i64 0,.int .i64 16,.bool true,.nilsl,kd],.int .i64 0])) (hDR:Call Q 11 [.sl 2 (attrs d)]=some (.tup [.agg [.int .i64 0,.int .i64 16,.bool true,.nilsl,kd],.int .i64 0])) (hSm:Call Q 14 [.agg [.int .i64 0,.int .i64 16,.bool true,.nilsl,kd],.agg [.int .i64 0,.int .i64 16,.bool true,.nilsl,kd]]=some (.bool true)) (h7b:Call Q 7 [.agg [.int .i64 0,.int .i64 16,.bool true,.nilsl,kd]]=some (.tup [.sl 2 (attrs d),.int .i64 0])) (hSn:Call Q 15 [.sl 2 (attrs d),.sl 2 (attrs d)]=some (.bool true)):Call Q 3 [.agg [.int .i64 c,.int .i64 tg,.bool m,w,k],.sl 2 (attrs d)]=some (.bool true):=by
 have hA:=c_anchor
 have hr':=decide_eq_false hr
 rw[Call_fn Q (m:=m3) rfl rfl]
 apply hide;intro rhs hrhs
 simp(maxSteps:=4000000) (disch:=first|omega|exact ok_of (by(try simp only[bB.u,seval,cut,hw.a,hk.a,hw'.a,hk'.a,hkt.a,hkd.a]);kernel_rfl)|decide) only[bB.u,seval,cut,m3,hA,hF,hr',hS,hPl,hP,hPR,hD,hAt,hDR,hAa,hSd,hSm,h7b,hDa,hSb,hSn,Run_nil,reach,hw.a,hk.a,hw'.a,hk'.a,hkt.a,hkd.a]
 repeat'((with_reducible first|refine sp ?_ ?_|fail)<;>intro hx<;>(try simp only[bI.u]at hx)<;>(first|exact xz|(try simp(maxSteps:=4000000) (disch:=first|omega|exact ok_of (by(try simp only[bB.u,seval,cut,hw.a,hk.a,hw'.a,hk'.a,hkt.a,hkd.a]);kernel_rfl)|decide) only[bB.u,seval,cut,hx,m3,hA,hF,hr',hS,hPl,hP,hPR,hD,hAt,hDR,hAa,hSd,hSm,h7b,hDa,hSb,hSn,Run_nil,reach,hw.a,hk.a,hw'.a,hk'.a,hkt.a,hkd.a])))
 all_goals first|exact xz|(subst hrhs;rfl)
end Go.Mini.Nm
namespace Go.Mini.Nm
open Go Go.Mini Go.Proofs.YtmhgldplcpklcaaGreatDoor
set_option maxRecDepth 100000
set_option maxHeartbeats 4000000
theorem zero_rv:Rv (.agg zero5L) (.mk 0 0 false [] []):=.mk .nil .nil
theorem zero_pdn:pdn (.mk 0 0 false [] [])= .er 30:=by
 rw[pdn,if_pos (.inr (.inr (.inl (by decide))))]
theorem same_call {a b:MV} {x:T} (ha:Rv a x) (hb:Rv b x) (hs:sz x≤2^40):Call Q 14 [a,b]=some (.bool true):=by
 have:=c_same (2^40) x x a b hs (Nat.le_refl _) ha hb
 rwa [sameT_refl]at this
theorem c_NameParses (t:T) (v:MV) (hv:Rv v t) (hok:okT t) (d:Dn) (hb:okBig d):Call Q 3 [v,.sl 2 (attrs d)]=some (.bool true):=by
 have hF:=c_few (sz t) t v 30 3000 (Nat.le_refl _) hok hv (by omega) (by omega) (by omega)
 have hS:=c_short (.sl 2 (attrs d)) d (.inl rfl) hb
 have hfs:=few_sz 30 3000 t
 obtain⟨c,tg,m,b,ks⟩:=t
 have hv0:=hv
 cases hv with
 | @mk _ _ _ _ w k _ _ hb' hk'=>
 have hw:=hb'.fs
 have hk:=hk'.fs
 by_cases hr:fewT 30 3000 (.mk c tg m b ks)<0
 ·exact l_few c tg m w k hw hk d _ hF hr
 have hsz:=hfs (by omega)
 have hs1:sz (.mk c tg m b ks)≤48000:=by omega
 cases hsh:shB d with
 |false=>rw[hsh]at hS;exact l_short c tg m w k hw hk d _ hF hr hS
 |true=>
 rw[hsh]at hS
 have hl:=sh_ok hsh
 obtain⟨v',hPl,hv'⟩:=c_plain (sz (.mk c tg m b ks)) _ _ (Nat.le_refl _) (by omega) hv0
 have hP:=c_ParseDN _ _ hv0 (low_all _) (by omega)
 have hPR:=c_ParseDNR _ _ hv' (by omega)
 have hv'0:=hv'
 cases hv' with
 | @mk _ _ _ _ w' k' _ _ hb'' hk''=>
 have hD:=c_DN d hl
 have hDR:=c_DNR d hl
 have hAt:=c_attrs d hl.1
 have hAe:Call Q 12 [.sl 2 []]=some (.sl 2 []):=c_attrs [] (by simp)
 have hSe:Call Q 13 [.sl 2 [],.sl 2 []]=some (.bool true):=by
  have:=c_SameR [] [] (by simp)
  simpa[attrs]using this
 cases hp:pdn (.mk c tg m b ks)with
 |er e=>
  rw[hp]at hP hPR
  have he:=pdn_er hp
  cases hd:dnS d with
  |er g=>
   rw[hd]at hD hDR
   have hz:=c_ParseDN _ _ zero_rv (low_all _) (by simp[sz,szs])
   rw[zero_pdn]at hz
   exact l_er_er c tg m w k hw hk d _ hF hr hS w' k' hb''.fs hk''.fs hPl e he hP hPR hAe hSe hAt g (dnS_er hd) hD hDR (same_call zero_rv zero_rv (by simp[sz,szs])) hz
  |ok x=>
   rw[hd]at hD hDR
   obtain⟨h1,h2⟩:=dnS_wr hd
   have hrv:=Rv_mvT x 0 (wrW_wr h1).1
   have h7:=c_ParseDN _ _ hrv (low_all _) (by omega)
   rw[pdn_dnS hd h1]at h7
   have hsm:=same_call hrv hrv (by omega)
   obtain⟨kx,rfl⟩:=dnS_form hd
   simp only[VR.mv,mvT_eq,if_true]at hD hDR h7 hsm
   exact l_er_ok c tg m w k hw hk d _ hF hr hS w' k' hb''.fs hk''.fs hPl e he hP hPR hAe hSe hAt _ mvK_fs hD hDR hsm h7 (by have:=c24 d d hl.1 hl.1;simpa using this)
 |ok x=>
  rw[hp]at hP hPR
  have hxl:=pdn_lens hp (by omega)
  obtain⟨hdx,hwx⟩:=dnS_pdn hp
  have hDa:=c_DN x hxl
  rw[hdx]at hDa
  have hrt:=Rv_mvT _ 0 (wrW_wr hwx).1
  have hSb:=same_call hrt hv'0 (by omega)
  have hAa:=c_attrs x hxl.1
  have hSd:Call Q 13 [.sl 2 (attrs x),.sl 2 (attrs x)]=some (.bool true):=by
   have:=c_SameR x x hxl.1
   simpa using this
  obtain⟨kx,hkx⟩:=dnS_form hdx
  cases hkx
  simp only[VR.mv,mvT_eq,if_true]at hDa hSb
  cases hd:dnS d with
  |er g=>
   rw[hd]at hD hDR
   have hz:=c_ParseDN _ _ zero_rv (low_all _) (by simp[sz,szs])
   rw[zero_pdn]at hz
   exact l_ok_er 0 16 true w k hw hk d _ hF hr hS w' k' hb''.fs hk''.fs hPl x _ mvK_fs hDa hSb hP hPR hAa hSd hAt g (dnS_er hd) hD hDR (same_call zero_rv zero_rv (by simp[sz,szs])) hz
  |ok y=>
   rw[hd]at hD hDR
   obtain⟨h1,h2⟩:=dnS_wr hd
   have hrv:=Rv_mvT y 0 (wrW_wr h1).1
   have h7:=c_ParseDN _ _ hrv (low_all _) (by omega)
   rw[pdn_dnS hd h1]at h7
   have hsm:=same_call hrv hrv (by omega)
   obtain⟨ky,rfl⟩:=dnS_form hd
   simp only[VR.mv,mvT_eq,if_true]at hD hDR h7 hsm
   exact l_ok_ok 0 16 true w k hw hk d _ hF hr hS w' k' hb''.fs hk''.fs hPl x _ mvK_fs hDa hSb hP hPR hAa hSd hAt _ mvK_fs hD hDR hsm h7 (by have:=c24 d d hl.1 hl.1;simpa using this)
end Go.Mini.Nm
