/- any value's DN and any DN's value are the document's: the law by that interpreter (part 16): what the program's functions answer, or plain laws of it; no conditions. -/
import Derived.Test.YtmhgldplcpklcaaGreatDoorA15
import Derived.Test.YtmhgldplcpklcaaGreatDoorA14
import Derived.Test.YtmhgldplcpklcaaGreatDoorA08
set_option linter.all false
namespace Go.Mini.Nm
open Go Go.Mini Go.Proofs.YtmhgldplcpklcaaGreatDoor
set_option maxRecDepth 100000
set_option maxHeartbeats 8000000
def gDr (s:List T × Int) (a:List UInt8 × List UInt8):(List T × Int) ⊕ Unit:=match oidS a.1 with
 |none=>.inr ()
 |some out=>.inl (s.1++[kidT out a.2],if textB a.2=true then s.2 else 31)
def flagE (e:Int) (d:Dn):Int:=if(d.any fun a=>!textB a.2)=true then 31 else e
theorem flag_lem (x y:Bool) (e:Int):(if y=true then 31 else if x=true then e else 31)=if(!x||y)=true then 31 else e:=by
 cases x<;>cases y<;>rfl
theorem gDr_fold:∀(d:Dn) (s:List T × Int),foldE gDr s d=match foldE gDn s.1 d with
  | .inl ks=>.inl (ks,flagE s.2 d)
  | .inr u=>.inr u
 | [],s=>by simp[foldE,flagE]
 |a::r,s=>by
  rw[foldE_cons,foldE_cons]
  cases ho:oidS a.1 with
  |none=>
   rw[show gDr s a= .inr () by unfold gDr;rw[ho],show gDn s.1 a= .inr () by unfold gDn;rw[ho]]
  |some out=>
   rw[show gDr s a= .inl (s.1++[kidT out a.2],if textB a.2=true then s.2 else 31) by unfold gDr;rw[ho],show gDn s.1 a= .inl (s.1++[kidT out a.2]) by unfold gDn;rw[ho]]
   simp only
   rw[gDr_fold r]
   simp only
   cases foldE gDn (s.1++[kidT out a.2]) r with
   |inr u=>rfl
   |inl ks=>
    simp only
    refine congrArg Sum.inl (Prod.ext rfl ?_)
    simp only[flagE,List.any_cons]
    exact flag_lem _ _ _
def R_dr:List (Nat × Option (Bool × Nat) × PK):=[(2,some (true,5),.other),(3,none,.other)]
def V_dr (d:Dn) (e:Int) (i:Int):List (Nat × MV):=[(0,.sl 2 (attrs d)),(2,.ptr 0 0),(4,.ptr 1 0),(5,.int .i64 e),(6,.int .i64 i)]
def dr_tail:MCode:=(.seq (sq [qa 66 5,qC 67 .neq 66 0] (.cond (.v 67) (sq [oT 68 (.build qz0 []),qa 69 5,qg 5 2 68,qb 3 69] .ret) .skip)) (sq [qi 70 5 4,qg 5 2 70,qe 3 0] .ret))
theorem dr_step (d:Dn) (hd:d.length≤16) (hl:okLens d) (K:List Item) (s:List T × Int) (i:Nat) (a:List UInt8 × List UInt8) (hk:s.1.length=i) (hg:d[i]? = some a):
  After (fun s i=>s.1.length=i) (fun s i=>fin R_dr (RunL Q m11k0 m11b0 K ⟨V_dr d s.2 (i:Nat),[],O19 (s.1.map mvT),nx19 (s.1.map mvT)⟩)) (fun _=>some (.tup [.agg zero5L,.int .i64 30]))
   (fin R_dr (RunL Q m11k0 m11b0 K ⟨V_dr d s.2 (i:Nat),[],O19 (s.1.map mvT),nx19 (s.1.map mvT)⟩)) (i+1) (gDr s a):=by
 obtain⟨ks,e⟩:=s
 simp only at hk
 have hi:i<d.length:=(List.getElem?_eq_some_iff.1 hg).1
 have hlt:decide ((i:Int)<(d.length:Int))=true:=by simp;omega
 have i1:(i:Int)<(d.length:Int):=by omega
 have hal:=attrs_length d
 have hg':=attrs_get hg
 have lens:=hl.2 a (List.mem_of_getElem? hg)
 have ho:=c56 a.1 lens.1
 have ht:=c_kindR a.2 (by omega)
 have hx:=c_textR a.2 (by omega)
 have e9:((i+1:Nat):Int)=(i:Int)+1:=rfl
 unfold gDr
 cases hxo:oidS a.1 with
 |none=>
  rw[hxo]at ho
  simp only[ans53,bad53,zero5,After]at ho ⊢
  cases ks with
  |nil=>
   simp only[List.map_nil,O19,nx19,V_dr]
   unfold zero5L
   obtain⟨b',hb'⟩:∃b',b'=m11b0:=⟨_,rfl⟩
   rw[RunL_eq,show Item.lp m11k0 m11b0=Item.lp m11k0 b' by rw[hb']]
   apply hide;intro rhs hrhs
   simp(maxSteps:=4000000)(disch:=first|exact dz|fail)only[bB.u,seval,cut,m11b0,R_dr,hlt,i1,hal,hg',ho]
   repeat'((with_reducible first|refine sp ?_ ?_|fail)<;>intro hx<;>(try simp only[bI.u]at hx)<;>(first|exact xz|(try simp(maxSteps:=4000000)(disch:=first|exact dz|fail)only[bB.u,seval,cut,hx,m11b0,R_dr,hlt,i1,hal,hg',ho])))
   all_goals first|exact xz|(subst hrhs;rfl)
  |cons k ks=>
   simp only[List.map_cons,O19,nx19,V_dr]
   generalize mvT k::ks.map mvT=kl
   generalize(ks.map mvT).length+1=n
   unfold zero5L
   obtain⟨b',hb'⟩:∃b',b'=m11b0:=⟨_,rfl⟩
   rw[RunL_eq,show Item.lp m11k0 m11b0=Item.lp m11k0 b' by rw[hb']]
   apply hide;intro rhs hrhs
   simp(maxSteps:=4000000)(disch:=first|exact dz|fail)only[bB.u,seval,cut,m11b0,R_dr,hlt,i1,hal,hg',ho]
   repeat'((with_reducible first|refine sp ?_ ?_|fail)<;>intro hx<;>(try simp only[bI.u]at hx)<;>(first|exact xz|(try simp(maxSteps:=4000000)(disch:=first|exact dz|fail)only[bB.u,seval,cut,hx,m11b0,R_dr,hlt,i1,hal,hg',ho])))
   all_goals first|exact xz|(subst hrhs;rfl)
 |some out=>
  rw[hxo]at ho
  simp only[ans53,good53,After]at ho ⊢
  refine⟨by simp[hk],?_⟩
  cases hxt:textB a.2
  all_goals(
   rw[hxt]at hx
   first|rw[if_pos rfl]|rw[if_neg (by decide)]
   cases ks with
   |nil=>
    simp only[List.map_nil,List.nil_append,List.map_cons,mvT_kid,O19,nx19,V_dr,e9]
    unfold zero5L
    obtain⟨b',hb'⟩:∃b',b'=m11b0:=⟨_,rfl⟩
    rw[RunL_eq,show Item.lp m11k0 m11b0=Item.lp m11k0 b' by rw[hb']]
    apply hide;intro rhs hrhs
    simp(maxSteps:=4000000)(disch:=first|exact dz|fail)only[bB.u,seval,cut,m11b0,R_dr,hlt,i1,hal,hg',ho,ht,hx]
    repeat'((with_reducible first|refine sp ?_ ?_|fail)<;>intro hx<;>(try simp only[bI.u]at hx)<;>(first|exact xz|(try simp(maxSteps:=4000000)(disch:=first|exact dz|fail)only[bB.u,seval,cut,hx,m11b0,R_dr,hlt,i1,hal,hg',ho,ht,hx])))
    all_goals first|exact xz|(subst hrhs;(subst hb';refine(congrArg (fin _) (Run_lp Q _ _ _ _)).trans ?_;exact congrArg (fin R_dr) (RunL_canon (canon_cong kr kr kr))))
   |cons k ks=>
    simp only[List.length_cons]at hk
    have hml:(ks.map mvT).length=ks.length:=by simp
    have hml2:(ks.map mvT++[kidV out a.2]).length=ks.length+1:=by simp
    simp only[List.map_cons,List.map_append,List.map_nil,List.cons_append,mvT_kid,O19,nx19,V_dr,e9,hml,hml2]
    have hkl:(mvT k::ks.map mvT).length=i:=by simp;omega
    rw[←List.cons_append]
    generalize mvT k::ks.map mvT=kl at hkl ⊢
    rw[hk]
    unfold zero5L
    obtain⟨b',hb'⟩:∃b',b'=m11b0:=⟨_,rfl⟩
    rw[RunL_eq,show Item.lp m11k0 m11b0=Item.lp m11k0 b' by rw[hb']]
    apply hide;intro rhs hrhs
    simp(maxSteps:=4000000)(disch:=first|exact dz|fail)only[bB.u,seval,cut,m11b0,R_dr,hlt,i1,hal,hg',ho,ht,hx,hkl]
    repeat'((with_reducible first|refine sp ?_ ?_|fail)<;>intro hx<;>(try simp only[bI.u]at hx)<;>(first|exact xz|(try simp(maxSteps:=4000000)(disch:=first|exact dz|fail)only[bB.u,seval,cut,hx,m11b0,R_dr,hlt,i1,hal,hg',ho,ht,hx,hkl])))
    all_goals first|exact xz|(subst hrhs;(subst hb';refine(congrArg (fin _) (Run_lp Q _ _ _ _)).trans ?_;exact congrArg (fin R_dr) (RunL_canon (canon_cong kr kr kr)))))
theorem dr_end (d:Dn) (ks:List T) (hk:ks.length=d.length) (e:Int) (he:e=0∨e=31):fin R_dr (RunL Q m11k0 m11b0 [.blk 0,.code dr_tail] ⟨V_dr d e (d.length:Nat),[],O19 (ks.map mvT),nx19 (ks.map mvT)⟩)=some (VR.mv (if e≠0 then .er e else .ok (.mk 0 16 true [] ks))):=by
 have hlt:decide ((d.length:Int)<(d.length:Int))=false:=by simp
 have hal:=attrs_length d
 rcases he with rfl|rfl
 ·rw[if_neg (by simp)]
  simp only[VR.mv,mvT_eq,if_true]
  cases ks with
  |nil=>
   simp only[List.map_nil,O19,nx19,V_dr,mvK]
   unfold zero5L
   obtain⟨b',hb'⟩:∃b',b'=m11b0:=⟨_,rfl⟩
   rw[RunL_eq,show Item.lp m11k0 m11b0=Item.lp m11k0 b' by rw[hb']]
   apply hide;intro rhs hrhs
   simp(maxSteps:=4000000)(disch:=first|exact dz|fail)only[bB.u,seval,cut,m11b0,R_dr,hlt,dr_tail,hal]
   repeat'((with_reducible first|refine sp ?_ ?_|fail)<;>intro hx<;>(try simp only[bI.u]at hx)<;>(first|exact xz|(try simp(maxSteps:=4000000)(disch:=first|exact dz|fail)only[bB.u,seval,cut,hx,m11b0,R_dr,hlt,dr_tail,hal])))
   all_goals first|exact xz|(subst hrhs;rfl)
  |cons k ks=>
   have hkl:(mvT k::ks.map mvT).length=d.length:=by simpa using hk
   have hke:(ks.map mvT).length+1=d.length:=by simpa using hk
   simp only[List.map_cons,O19,nx19,V_dr,mvK,mvTs,mvTs_map,hke]
   generalize mvT k::ks.map mvT=kl at hkl ⊢
   unfold zero5L
   obtain⟨b',hb'⟩:∃b',b'=m11b0:=⟨_,rfl⟩
   rw[RunL_eq,show Item.lp m11k0 m11b0=Item.lp m11k0 b' by rw[hb']]
   apply hide;intro rhs hrhs
   simp(maxSteps:=4000000)(disch:=first|exact dz|fail)only[bB.u,seval,cut,m11b0,R_dr,hlt,dr_tail,hal,hkl]
   repeat'((with_reducible first|refine sp ?_ ?_|fail)<;>intro hx<;>(try simp only[bI.u]at hx)<;>(first|exact xz|(try simp(maxSteps:=4000000)(disch:=first|exact dz|fail)only[bB.u,seval,cut,hx,m11b0,R_dr,hlt,dr_tail,hal,hkl])))
   all_goals first|exact xz|(subst hrhs;rfl)
 ·rw[if_pos (by decide)]
  simp only[VR.mv]
  cases ks with
  |nil=>
   simp only[List.map_nil,O19,nx19,V_dr]
   unfold zero5L
   obtain⟨b',hb'⟩:∃b',b'=m11b0:=⟨_,rfl⟩
   rw[RunL_eq,show Item.lp m11k0 m11b0=Item.lp m11k0 b' by rw[hb']]
   apply hide;intro rhs hrhs
   simp(maxSteps:=4000000)(disch:=first|exact dz|fail)only[bB.u,seval,cut,m11b0,R_dr,hlt,dr_tail,hal]
   repeat'((with_reducible first|refine sp ?_ ?_|fail)<;>intro hx<;>(try simp only[bI.u]at hx)<;>(first|exact xz|(try simp(maxSteps:=4000000)(disch:=first|exact dz|fail)only[bB.u,seval,cut,hx,m11b0,R_dr,hlt,dr_tail,hal])))
   all_goals first|exact xz|(subst hrhs;rfl)
  |cons k ks=>
   have hkl:(mvT k::ks.map mvT).length=d.length:=by simpa using hk
   have hke:(ks.map mvT).length+1=d.length:=by simpa using hk
   simp only[List.map_cons,O19,nx19,V_dr,hke]
   generalize mvT k::ks.map mvT=kl at hkl ⊢
   unfold zero5L
   obtain⟨b',hb'⟩:∃b',b'=m11b0:=⟨_,rfl⟩
   rw[RunL_eq,show Item.lp m11k0 m11b0=Item.lp m11k0 b' by rw[hb']]
   apply hide;intro rhs hrhs
   simp(maxSteps:=4000000)(disch:=first|exact dz|fail)only[bB.u,seval,cut,m11b0,R_dr,hlt,dr_tail,hal,hkl]
   repeat'((with_reducible first|refine sp ?_ ?_|fail)<;>intro hx<;>(try simp only[bI.u]at hx)<;>(first|exact xz|(try simp(maxSteps:=4000000)(disch:=first|exact dz|fail)only[bB.u,seval,cut,hx,m11b0,R_dr,hlt,dr_tail,hal,hkl])))
   all_goals first|exact xz|(subst hrhs;rfl)
theorem c_DNR (d:Dn) (hl:okLens d):Call Q 11 [.sl 2 (attrs d)]=some (dnS d).mv:=by
 have hal:=attrs_length d
 unfold dnS
 by_cases h16:16<d.length
 ·rw[if_pos h16]
  have h16':decide (16<(d.length:Int))=true:=by simp;omega
  simp only[VR.mv]
  unfold zero5L
  rw[Call_fn Q (m:=m11) rfl rfl]
  apply hide;intro rhs hrhs
  simp(maxSteps:=4000000)(disch:=first|exact dz|fail)only[bB.u,seval,cut,m11,hal,h16']
  repeat'((with_reducible first|refine sp ?_ ?_|fail)<;>intro hx<;>(try simp only[bI.u]at hx)<;>(first|exact xz|(try simp(maxSteps:=4000000)(disch:=first|exact dz|fail)only[bB.u,seval,cut,hx,m11,hal,h16'])))
  all_goals first|exact xz|(subst hrhs;rfl)
 rw[if_neg h16]
 have h16':decide (16<(d.length:Int))=false:=by simp;omega
 have hf0:=gDr_fold d ([],0)
 rw[Call_fn Q (m:=m11) rfl rfl]
 apply hide;intro rhs hrhs
 simp(maxSteps:=4000000)(disch:=first|exact dz|fail)only[bB.u,seval,cut,m11,Run_loop,hal,h16']
 refine loopR d gDr (fun s i=>fin R_dr (RunL Q m11k0 m11b0 [.blk 0,.code dr_tail] ⟨V_dr d s.2 (i:Nat),[],O19 (s.1.map mvT),nx19 (s.1.map mvT)⟩)) (fun _=>some (.tup [.agg zero5L,.int .i64 30])) (fun s i=>s.1.length=i)
  (fun s i a hk hg=>dr_step d (by omega) hl _ s i a hk hg) ([],0) rfl (congrArg (fin _) (RunL_canon (canon_cong kr kr kr))) ?_ ?_
 ·intro s hf hk
  rw[hf0]at hf
  rw[hrhs]
  cases hg:foldE gDn [] d with
  |inr u=>simp only[hg]at hf;cases hf
  |inl ks=>
   simp only[hg]at hf
   cases hf
   refine(dr_end d ks hk _ (by unfold flagE;split<;>simp)).trans ?_
   unfold flagE
   by_cases h1:(d.any fun a=>!textB a.2)=true
   ·rw[if_pos h1]
    exact congrArg (fun x=>some (VR.mv x)) ((if_pos (show(31:Int)≠0 by decide)).trans (if_pos h1).symm)
   ·rw[if_neg h1]
    exact congrArg (fun x=>some (VR.mv x)) ((if_neg (show ¬(0:Int)≠0 by decide)).trans (if_neg h1).symm)
 ·intro c hf
  rw[hf0]at hf
  rw[hrhs]
  cases hg:foldE gDn [] d with
  |inr u=>rfl
  |inl ks=>simp only[hg]at hf;cases hf
theorem sd_loop (K:List Item) (a b:Dn) (hl:a.length<1000000) (hb:b.length=a.length) (hK:K=[.blk 0,.code (.seq (.rg [oV 4 (.mv (.c (.bool true)))])
  (.ret))]):∀(r q:Dn) (i:Nat),a.drop i=r→b.drop i=q→i+r.length=a.length→fin [(4,none,PK.other)] (RunL Q m13k0 m13b0 K ⟨[(0,.sl 2 (attrs a)),(1,.sl 2 (attrs b)),(5,.int .i64 (i:Nat))],[],[],1⟩)=some (.bool (decide (r=q)))
 | [],q,i,hd,hq,hi=>by
  have hi':i=a.length:=by simpa using hi
  subst hi'
  have hq':q=[]:=by rw[←hq,List.drop_eq_nil_of_le (by omega)]
  subst hq' hK
  have la:=attrs_length a
  have hlt:decide ((a.length:Int)<(a.length:Int))=false:=by simp
  obtain⟨b',hb'⟩:∃b',b'=m13b0:=⟨_,rfl⟩
  rw[RunL_eq,show Item.lp m13k0 m13b0=Item.lp m13k0 b' by rw[hb']]
  apply hide;intro rhs hrhs
  simp(maxSteps:=4000000)(disch:=first|exact dz|fail)only[bB.u,seval,cut,m13b0,hlt,la]
  repeat'((with_reducible first|refine sp ?_ ?_|fail)<;>intro hx<;>(try simp only[bI.u]at hx)<;>(first|exact xz|(try simp(maxSteps:=4000000)(disch:=first|exact dz|fail)only[bB.u,seval,cut,hx,m13b0,hlt,la])))
  all_goals first|exact xz|(subst hrhs;rfl)
 |x::r,[],i,hd,hq,hi=>by
  simp only[List.length_cons]at hi
  have:=List.drop_eq_nil_iff.1 hq
  omega
 |x::r,y::q,i,hd,hq,hi=>by
  simp only[List.length_cons]at hi
  have hlt:decide ((i:Int)<(a.length:Int))=true:=by simp;omega
  have i1:(i:Int)<(a.length:Int):=by omega
  have hg:a[i]? = some x:=by
   have:=congrArg (·[0]?) hd
   simpa[List.getElem?_drop]using this
  have hg2:b[i]? = some y:=by
   have:=congrArg (·[0]?) hq
   simpa[List.getElem?_drop]using this
  have ga:=attrs_get hg
  have gb:=attrs_get hg2
  have la:=attrs_length a
  have lb:=(attrs_length b).trans hb
  have hd':a.drop (i+1)=r:=by
   have:=congrArg (List.drop 1) hd
   simpa[List.drop_drop]using this
  have hq':b.drop (i+1)=q:=by
   have:=congrArg (List.drop 1) hq
   simpa[List.drop_drop]using this
  have ih:=sd_loop K a b hl hb hK r q (i+1) hd' hq' (by omega)
  rw[show((i+1:Nat):Int)=(i:Int)+1 from rfl]at ih
  obtain⟨x1,x2⟩:=x
  obtain⟨y1,y2⟩:=y
  cases h1:(x1==y1)
  ·have hne:decide ((x1,x2)::r=(y1,y2)::q)=false:=by
    have:x1≠y1:=by simpa using h1
    simp[this]
   rw[hne]
   obtain⟨b',hb'⟩:∃b',b'=m13b0:=⟨_,rfl⟩
   rw[RunL_eq,show Item.lp m13k0 m13b0=Item.lp m13k0 b' by rw[hb']]
   apply hide;intro rhs hrhs
   simp(maxSteps:=4000000)(disch:=first|exact dz|fail)only[bB.u,seval,cut,m13b0,hlt,i1,la,lb,ga,gb,h1,eqCells]
   repeat'((with_reducible first|refine sp ?_ ?_|fail)<;>intro hx<;>(try simp only[bI.u]at hx)<;>(first|exact xz|(try simp(maxSteps:=4000000)(disch:=first|exact dz|fail)only[bB.u,seval,cut,hx,m13b0,hlt,i1,la,lb,ga,gb,h1,eqCells])))
   all_goals first|exact xz|(subst hrhs;rfl)
  ·cases h2:(x2==y2)
   ·have hne:decide ((x1,x2)::r=(y1,y2)::q)=false:=by
     have:x2≠y2:=by simpa using h2
     simp[this]
    rw[hne]
    obtain⟨b',hb'⟩:∃b',b'=m13b0:=⟨_,rfl⟩
    rw[RunL_eq,show Item.lp m13k0 m13b0=Item.lp m13k0 b' by rw[hb']]
    apply hide;intro rhs hrhs
    simp(maxSteps:=4000000)(disch:=first|exact dz|fail)only[bB.u,seval,cut,m13b0,hlt,i1,la,lb,ga,gb,h1,h2,eqCells]
    repeat'((with_reducible first|refine sp ?_ ?_|fail)<;>intro hx<;>(try simp only[bI.u]at hx)<;>(first|exact xz|(try simp(maxSteps:=4000000)(disch:=first|exact dz|fail)only[bB.u,seval,cut,hx,m13b0,hlt,i1,la,lb,ga,gb,h1,h2,eqCells])))
    all_goals first|exact xz|(subst hrhs;rfl)
   ·have he:decide ((x1,x2)::r=(y1,y2)::q)=decide (r=q):=by
     have e1:x1=y1:=by simpa using h1
     have e2:x2=y2:=by simpa using h2
     simp[e1,e2]
    rw[he,←ih]
    obtain⟨b',hb'⟩:∃b',b'=m13b0:=⟨_,rfl⟩
    rw[RunL_eq,show Item.lp m13k0 m13b0=Item.lp m13k0 b' by rw[hb']]
    apply hide;intro rhs hrhs
    simp(maxSteps:=4000000)(disch:=first|exact dz|fail)only[bB.u,seval,cut,m13b0,hlt,i1,la,lb,ga,gb,h1,h2,eqCells]
    repeat'((with_reducible first|refine sp ?_ ?_|fail)<;>intro hx<;>(try simp only[bI.u]at hx)<;>(first|exact xz|(try simp(maxSteps:=4000000)(disch:=first|exact dz|fail)only[bB.u,seval,cut,hx,m13b0,hlt,i1,la,lb,ga,gb,h1,h2,eqCells])))
    all_goals first|exact xz|(subst hrhs;(subst hb';refine(congrArg (fin _) (Run_lp Q _ _ _ _)).trans ?_;exact congrArg (fin [(4,none,PK.other)]) (RunL_canon (canon_cong kr kr kr))))
theorem c_SameR (a b:Dn) (hl:a.length<1000000):Call Q 13 [.sl 2 (attrs a),.sl 2 (attrs b)]=some (.bool (decide (a=b))):=by
 have la:=attrs_length a
 have lb:=attrs_length b
 rw[Call_fn Q (m:=m13) rfl rfl]
 by_cases hb:b.length=a.length
 ·have hn:((a.length:Int) != (b.length:Int))=false:=by rw[hb];exact bne_self_eq_false _
  have hn2:((a.length:Int)==(b.length:Int))=true:=by rw[hb];simp
  have lp:=sd_loop _ a b hl hb rfl a b 0 rfl rfl (by omega)
  apply hide;intro rhs hrhs
  simp(maxSteps:=4000000)(disch:=first|exact dz|fail)only[bB.u,seval,cut,m13,la,lb,hn,hn2,Run_loop]
  repeat'((with_reducible first|refine sp ?_ ?_|fail)<;>intro hx<;>(try simp only[bI.u]at hx)<;>(first|exact xz|(try simp(maxSteps:=4000000)(disch:=first|exact dz|fail)only[bB.u,seval,cut,hx,m13,la,lb,hn,hn2,Run_loop])))
  all_goals first|exact xz|(subst hrhs;exact(congrArg (fin _) (RunL_canon (canon_cong kr kr kr))).trans lp)
 ·have hne:decide (a=b)=false:=by
   have:a≠b:=fun h=>hb (by rw[h])
   simp[this]
  have hn:((a.length:Int) != (b.length:Int))=true:=by rw[bne_iff_ne];omega
  have hn2:((a.length:Int)==(b.length:Int))=false:=by rw[beq_eq_false_iff_ne];omega
  rw[hne]
  apply hide;intro rhs hrhs
  simp(maxSteps:=4000000)(disch:=first|exact dz|fail)only[bB.u,seval,cut,m13,la,lb,hn,hn2]
  repeat'((with_reducible first|refine sp ?_ ?_|fail)<;>intro hx<;>(try simp only[bI.u]at hx)<;>(first|exact xz|(try simp(maxSteps:=4000000)(disch:=first|exact dz|fail)only[bB.u,seval,cut,hx,m13,la,lb,hn,hn2])))
  all_goals first|exact xz|(subst hrhs;rfl)
def gSh (n:Int) (a:List UInt8 × List UInt8):Int ⊕ Unit:=if 3000<n+((a.1.length:Int)+(a.2.length:Int))then .inr ()else .inl (n+((a.1.length:Int)+(a.2.length:Int)))
def shB (d:Dn):Bool:=match foldE gSh (d.length:Int) d with
 | .inl n=>decide (n≤3000)
 | .inr _=>false
def sh_tail:MCode:=(sq [qa 32 3,qx 33 .leq 32 3000,qb 2 33] .ret)
def sh_st (dv:MV) (n m i:Int):DS:=⟨[(3,.int .i64 n),(14,dv),(15,.int .i64 m),(16,.int .i64 i)],[],[],1⟩
def okBig (d:Dn):Prop:=d.length<2^48∧∀a∈d,a.1.length<2^48∧a.2.length<2^48
theorem sh_end (dv:MV) (n m:Int):fin [(2,none,PK.other)] (RunL Q m6k0 m6b0 [.blk 0,.code sh_tail] (sh_st dv n m m))=some (.bool (decide (n≤3000))):=by
 have hlt:decide (m<m)=false:=by simp
 unfold sh_st
 obtain⟨b',hb'⟩:∃b',b'=m6b0:=⟨_,rfl⟩
 rw[RunL_eq,show Item.lp m6k0 m6b0=Item.lp m6k0 b' by rw[hb']]
 apply hide;intro rhs hrhs
 simp(maxSteps:=4000000)(disch:=first|exact dz|fail)only[bB.u,seval,cut,m6b0,sh_tail,hlt]
 repeat'((with_reducible first|refine sp ?_ ?_|fail)<;>intro hx<;>(try simp only[bI.u]at hx)<;>(first|exact xz|(try simp(maxSteps:=4000000)(disch:=first|exact dz|fail)only[bB.u,seval,cut,hx,m6b0,sh_tail,hlt])))
 all_goals first|exact xz|(subst hrhs;rfl)
theorem sh_step (d:Dn) (hb:okBig d) (n:Int) (i:Nat) (a:List UInt8 × List UInt8) (hI:0≤n∧n≤2^50) (hg:d[i]? = some a):
  After (fun n _=>0≤n∧n≤2^50) (fun n i=>fin [(2,none,PK.other)] (RunL Q m6k0 m6b0 [.blk 0,.code sh_tail] (sh_st (.sl 2 (attrs d)) n d.length (i:Nat)))) (fun _=>some (.bool false)) (fin [(2,none,PK.other)] (RunL Q m6k0 m6b0 [.blk 0,.code sh_tail] (sh_st (.sl 2 (attrs d)) n d.length (i:Nat)))) (i+1) (gSh n a):=by
 have hi:=(List.getElem?_eq_some_iff.1 hg).1
 have hg':=attrs_get hg
 have hal:=attrs_length d
 have hlt:decide ((i:Int)<(d.length:Int))=true:=by simp;omega
 have i1:(i:Int)<(d.length:Int):=by omega
 obtain⟨b1,b2⟩:=hb
 have b3:=b2 a (List.mem_of_getElem? hg)
 have e9:((i+1:Nat):Int)=(i:Int)+1:=rfl
 unfold gSh
 by_cases h:3000<n+((a.1.length:Int)+(a.2.length:Int))
 ·rw[if_pos h]
  have h':=decide_eq_true h
  simp only[After]
  unfold sh_st
  obtain⟨b',hb'⟩:∃b',b'=m6b0:=⟨_,rfl⟩
  rw[RunL_eq,show Item.lp m6k0 m6b0=Item.lp m6k0 b' by rw[hb']]
  apply hide;intro rhs hrhs
  simp(maxSteps:=4000000)(disch:=first|exact dz|fail)only[bB.u,seval,cut,m6b0,hlt,i1,hg',hal,h']
  repeat'((with_reducible first|refine sp ?_ ?_|fail)<;>intro hx<;>(try simp only[bI.u]at hx)<;>(first|exact xz|(try simp(maxSteps:=4000000)(disch:=first|exact dz|fail)only[bB.u,seval,cut,hx,m6b0,hlt,i1,hg',hal,h'])))
  all_goals first|exact xz|(subst hrhs;rfl)
 ·rw[if_neg h]
  have h':=decide_eq_false h
  refine⟨by omega,?_⟩
  dsimp only
  unfold sh_st
  rw[e9]
  obtain⟨b',hb'⟩:∃b',b'=m6b0:=⟨_,rfl⟩
  rw[RunL_eq,show Item.lp m6k0 m6b0=Item.lp m6k0 b' by rw[hb']]
  apply hide;intro rhs hrhs
  simp(maxSteps:=4000000)(disch:=first|exact dz|fail)only[bB.u,seval,cut,m6b0,hlt,i1,hg',hal,h']
  repeat'((with_reducible first|refine sp ?_ ?_|fail)<;>intro hx<;>(try simp only[bI.u]at hx)<;>(first|exact xz|(try simp(maxSteps:=4000000)(disch:=first|exact dz|fail)only[bB.u,seval,cut,hx,m6b0,hlt,i1,hg',hal,h'])))
  all_goals first|exact xz|(subst hrhs;(subst hb';refine(congrArg (fin _) (Run_lp Q _ _ _ _)).trans ?_;exact congrArg (fin [(2,none,PK.other)]) (RunL_canon (canon_cong kr kr kr))))
theorem c_short (dv:MV) (d:Dn) (hdv:isDir dv d) (hb:okBig d):Call Q 6 [.agg [.int .i64 0,.str [],dv]]=some (.bool (shB d)):=by
 have hal:=attrs_length d
 have hb1:=hb.1
 have loop:∀dv',isDir dv' d→fin [(2,none,PK.other)] (RunL Q m6k0 m6b0 [.blk 0,.code sh_tail] (sh_st dv' d.length d.length 0))=some (.bool (shB d)):=by
  intro dv' h
  rcases h with rfl|⟨rfl,rfl⟩
  ·have key:=loopI (β:=Int) d gSh (fun n i=>fin [(2,none,PK.other)] (RunL Q m6k0 m6b0 [.blk 0,.code sh_tail] (sh_st (.sl 2 (attrs d)) n d.length (i:Nat)))) (fun _=>some (.bool false)) (fun n _=>0≤n∧n≤2^50)
    (fun n i a hI hg=>sh_step d hb n i a hI hg) (d.length:Int) ⟨by omega,by omega⟩
   unfold shB
   cases hn:foldE gSh (d.length:Int) d with
   |inl n=>rw[hn]at key;exact key.2.trans (sh_end _ _ _)
   |inr c=>rw[hn]at key;exact key
  ·exact sh_end _ _ _
 have lp:=loop dv hdv
 unfold sh_st at lp
 rw[Call_fn Q (m:=m6) rfl rfl]
 rcases hdv with rfl|⟨rfl,rfl⟩
 ·skip
  apply hide;intro rhs hrhs
  simp(maxSteps:=4000000)(disch:=first|exact dz|fail)only[bB.u,seval,cut,m6,hal,Int.zero_add,Run_loop]
  repeat'((with_reducible first|refine sp ?_ ?_|fail)<;>intro hx<;>(try simp only[bI.u]at hx)<;>(first|exact xz|(try simp(maxSteps:=4000000)(disch:=first|exact dz|fail)only[bB.u,seval,cut,hx,m6,hal,Int.zero_add,Run_loop])))
  all_goals first|exact xz|(subst hrhs;exact(congrArg (fin _) (RunL_canon (canon_cong kr kr kr))).trans lp)
 ·rw[show(([]:Dn).length:Int)=0 from rfl]at lp
  apply hide;intro rhs hrhs
  simp(maxSteps:=4000000)(disch:=first|exact dz|fail)only[bB.u,seval,cut,m6,hal,Int.zero_add,Run_loop]
  repeat'((with_reducible first|refine sp ?_ ?_|fail)<;>intro hx<;>(try simp only[bI.u]at hx)<;>(first|exact xz|(try simp(maxSteps:=4000000)(disch:=first|exact dz|fail)only[bB.u,seval,cut,hx,m6,hal,Int.zero_add,Run_loop])))
  all_goals first|exact xz|(subst hrhs;exact(congrArg (fin _) (RunL_canon (canon_cong kr kr kr))).trans lp)
def at_tail:MCode:=(.seq (.rg [oT 21 (.mv (.v 3)),
  oV 2 (.mv (.t 21))])
  (.ret))
def at_st (d:Dn) (l:List MV) (a i:Nat):DS:=⟨[(3,.own a i),(6,.sl 2 (attrs d)),(7,.int .i64 (d.length:Int)),(8,.int .i64 (i:Nat))],[],[(a,.el 2 l false)],2⟩
theorem at_step (d:Dn) (hb:d.length<1000000) (l:List MV) (i:Nat) (x:List UInt8 × List UInt8) (hl:l.length=i) (hg:d[i]? = some x):fin [(2,none,PK.el 2)] (RunL Q m12k0 m12b0 [.blk 0,.code at_tail] (at_st d l (if i=0 then 1 else 0) i))=fin [(2,none,PK.el 2)] (RunL Q m12k0 m12b0 [.blk 0,.code at_tail] (at_st d (l++[attr x]) (if i+1=0 then 1 else 0) (i+1))):=by
 have hi:=(List.getElem?_eq_some_iff.1 hg).1
 have hg':=attrs_get hg
 have hal:=attrs_length d
 have hlt:decide ((i:Int)<(d.length:Int))=true:=by simp;omega
 have i1:(i:Int)<(d.length:Int):=by omega
 have e9:((i+1:Nat):Int)=(i:Int)+1:=rfl
 rw[if_neg (Nat.succ_ne_zero i)]
 have ha:(if i=0 then 1 else 0)≤1:=by split<;>omega
 generalize(if i=0 then 1 else 0)=a at ha ⊢
 unfold at_st attr
 rw[e9]
 obtain⟨b',hb'⟩:∃b',b'=m12b0:=⟨_,rfl⟩
 rw[RunL_eq,show Item.lp m12k0 m12b0=Item.lp m12k0 b' by rw[hb']]
 apply hide;intro rhs hrhs
 simp(maxSteps:=4000000)(disch:=first|exact dz|fail)only[bB.u,seval,cut,m12b0,hlt,i1,hg',hal,hl]
 repeat'((with_reducible first|refine sp ?_ ?_|fail)<;>intro hx<;>(try simp only[bI.u]at hx)<;>(first|exact xz|(try simp(maxSteps:=4000000)(disch:=first|exact dz|fail)only[bB.u,seval,cut,hx,m12b0,hlt,i1,hg',hal,hl])))
 all_goals first|exact xz|(subst hrhs;(subst hb';refine(congrArg (fin _) (Run_lp Q _ _ _ _)).trans ?_;exact congrArg (fin [(2,none,PK.el 2)]) (RunL_canon (canon_cong kr kr kr))))
theorem at_end (d:Dn) (l:List MV) (hl:l.length=d.length):fin [(2,none,PK.el 2)] (RunL Q m12k0 m12b0 [.blk 0,.code at_tail] (at_st d l (if d.length=0 then 1 else 0) d.length))=some (.sl 2 l):=by
 have hlt:decide ((d.length:Int)<(d.length:Int))=false:=by simp
 generalize(if d.length=0 then 1 else 0)=a
 unfold at_st
 obtain⟨b',hb'⟩:∃b',b'=m12b0:=⟨_,rfl⟩
 rw[RunL_eq,show Item.lp m12k0 m12b0=Item.lp m12k0 b' by rw[hb']]
 apply hide;intro rhs hrhs
 simp(maxSteps:=4000000)(disch:=first|exact dz|fail)only[bB.u,seval,cut,m12b0,at_tail,hlt,hl]
 repeat'((with_reducible first|refine sp ?_ ?_|fail)<;>intro hx<;>(try simp only[bI.u]at hx)<;>(first|exact xz|(try simp(maxSteps:=4000000)(disch:=first|exact dz|fail)only[bB.u,seval,cut,hx,m12b0,at_tail,hlt,hl])))
 all_goals first|exact xz|(subst hrhs;rfl)
theorem c_attrs (d:Dn) (hb:d.length<1000000):Call Q 12 [.sl 2 (attrs d)]=some (.sl 2 (attrs d)):=by
 have hal:=attrs_length d
 have lp:fin [(2,none,PK.el 2)] (RunL Q m12k0 m12b0 [.blk 0,.code at_tail] (at_st d [] 1 0))=some (.sl 2 (attrs d)):=
  (loopM d attr (fun l i=>fin [(2,none,PK.el 2)] (RunL Q m12k0 m12b0 [.blk 0,.code at_tail] (at_st d l (if i=0 then 1 else 0) i))) (fun l i x hl hg=>at_step d hb l i x hl hg)).trans (at_end d _ (by simp[attrs]))
 unfold at_st at lp
 rw[Call_fn Q (m:=m12) rfl rfl]
 apply hide;intro rhs hrhs
 simp(maxSteps:=4000000)(disch:=first|exact dz|fail)only[bB.u,seval,cut,m12,hal,Run_loop]
 repeat'((with_reducible first|refine sp ?_ ?_|fail)<;>intro hx<;>(try simp only[bI.u]at hx)<;>(first|exact xz|(try simp(maxSteps:=4000000)(disch:=first|exact dz|fail)only[bB.u,seval,cut,hx,m12,hal,Run_loop])))
 all_goals first|exact xz|(subst hrhs;exact(congrArg (fin _) (RunL_canon (canon_cong kr kr kr))).trans lp)
end Go.Mini.Nm
