/- a certificate's law by that interpreter (part 15): what the program's functions answer, or plain laws of it; no conditions. -/
import Derived.Test.YtgiobgojobegfaaGreatDoorA10
set_option linter.all false
namespace Go.Mini
open Go Go.Mini.Nm Go.Proofs.YtgiobgojobegfaaGreatDoor
set_option maxRecDepth 100000
set_option maxHeartbeats 4000000
theorem sizeB_go:∀(l:List UInt8) (a:Nat),l.foldl (fun n c=>n*256+c.toNat) a=a*256^l.length+sizeB l
 | [],a=>by simp[sizeB]
 |c::l,a=>by
  unfold sizeB
  rw[List.foldl_cons,List.foldl_cons,sizeB_go l,sizeB_go l,List.length_cons,Nat.pow_succ,Nat.add_mul,Nat.mul_assoc,Nat.mul_comm 256]
  simp only[Nat.zero_mul,Nat.zero_add]
  omega
theorem sizeB_cons (c:UInt8) (l:List UInt8):sizeB (c::l)=c.toNat*256^l.length+sizeB l:=by
 have:=sizeB_go l c.toNat
 unfold sizeB
 rw[List.foldl_cons,Nat.zero_mul,Nat.zero_add,this]
 rfl
theorem u8_small {n:Int} (h0:0≤n) (h:n<256):(UInt8.ofNat n.toNat).toNat=n.toNat:=by
 simp only[UInt8.toNat_ofNat'];omega
theorem numG_val:∀(k:Nat) (n:Int) (acc:List UInt8),0≤n→n<128*256^k→sizeB (numG (k+1) n acc)=n.toNat*256^acc.length+sizeB acc
 | 0,n,acc,h0,h=>by
  rw[numG,if_pos (by omega),sizeB_cons,u8_small h0 (by omega)]
 |k+1,n,acc,h0,h=>by
  rw[numG]
  by_cases hn:n<128
  ·rw[if_pos hn,sizeB_cons,u8_small h0 (by omega)]
  ·have e:(128*256^(k+1):Int)=256*(128*256^k):=by rw[Int.pow_succ];omega
   rw[e]at h
   rw[if_neg hn,numG_val k (n/256) _ (by omega) (by generalize(128*256^k:Int)=X at h ⊢;omega),sizeB_cons,u8_small (by omega) (by omega),List.length_cons,Nat.pow_succ]
   have e2:n.toNat=(n/256).toNat*256+(n%256).toNat:=by omega
   rw[e2,Nat.add_mul,Nat.mul_comm (256^acc.length) 256,←Nat.mul_assoc,Nat.add_assoc]
theorem numB_val {n:Int} (h0:0≤n) (h:n<9223372036854775808):sizeB (numB n)=n.toNat:=by
 unfold numB
 rw[if_neg (by omega),numG_val 8 n [] h0 (by omega)]
 simp[sizeB]
theorem numB_inj {a b:Int} (ha:0≤a∧a<9223372036854775808) (hb:0≤b∧b<9223372036854775808) (h:numB a=numB b):a=b:=by
 have e1:=numB_val ha.1 ha.2
 have e2:=numB_val hb.1 hb.2
 rw[h]at e1
 omega
theorem u8_inj {a b:Nat} (ha:a<256) (hb:b<256) (h:UInt8.ofNat a=UInt8.ofNat b):a=b:=by
 have:=congrArg UInt8.toNat h
 simp only[UInt8.toNat_ofNat']at this
 omega
theorem restB_inj {m d l m' d' l':Int} (h1:0≤m∧m<100) (h2:0≤d∧d<100) (h3:0≤l∧l<86400) (k1:0≤m'∧m'<100) (k2:0≤d'∧d'<100) (k3:0≤l'∧l'<86400) (h:restB m d l=restB m' d' l'):m=m'∧d=d'∧l=l':=by
 unfold restB two at h
 simp only[List.cons_append,List.nil_append,List.cons.injEq,and_true]at h
 obtain⟨a1,a2,a3,a4,a5,a6,a7,a8,a9,a10⟩:=h
 have a1:=u8_inj (by omega) (by omega) a1
 have a2:=u8_inj (by omega) (by omega) a2
 have a3:=u8_inj (by omega) (by omega) a3
 have a4:=u8_inj (by omega) (by omega) a4
 have a5:=u8_inj (by omega) (by omega) a5
 have a6:=u8_inj (by omega) (by omega) a6
 have a7:=u8_inj (by omega) (by omega) a7
 have a8:=u8_inj (by omega) (by omega) a8
 have a9:=u8_inj (by omega) (by omega) a9
 have a10:=u8_inj (by omega) (by omega) a10
 refine⟨by omega,by omega,?_⟩
 have q1:l/3600=l'/3600:=by omega
 have q2:l/60%60=l'/60%60:=by omega
 have q3:l%60=l'%60:=by omega
 omega
theorem two_inj {a b:Int} (ha:0≤a∧a<100) (hb:0≤b∧b<100) {x y:List UInt8} (h:two a++x=two b++y):a=b∧x=y:=by
 unfold two at h
 simp only[List.cons_append,List.nil_append,List.cons.injEq]at h
 obtain⟨a1,a2,a3⟩:=h
 have a1:=u8_inj (by omega) (by omega) a1
 have a2:=u8_inj (by omega) (by omega) a2
 exact⟨by omega,a3⟩
theorem four_inj {a b:Int} (ha:0≤a∧a<10000) (hb:0≤b∧b<10000) {x y:List UInt8} (h:four a++x=four b++y):a=b∧x=y:=by
 unfold four at h
 simp only[List.cons_append,List.nil_append,List.cons.injEq]at h
 obtain⟨a1,a2,a3,a4,a5⟩:=h
 have a1:=u8_inj (by omega) (by omega) a1
 have a2:=u8_inj (by omega) (by omega) a2
 have a3:=u8_inj (by omega) (by omega) a3
 have a4:=u8_inj (by omega) (by omega) a4
 exact⟨by omega,a5⟩
theorem timeS_inj {a b:Int} {x:T} (ha:timeS a= .ok x) (hb:timeS b= .ok x):a=b:=by
 unfold timeS at ha hb
 split at ha
 ·cases ha
 split at hb
 ·cases hb
 rename_i ra rb
 obtain⟨y1,y2,m1,m2,d1,d2,e1,_⟩:=time_rng a (by omega) (by omega)
 obtain⟨y1',y2',m1',m2',d1',d2',e1',_⟩:=time_rng b (by omega) (by omega)
 have fin:yOf a=yOf b→mOf a=mOf b∧dOf a=dOf b∧a%86400=b%86400→a=b:=by
  intro hy ⟨hm,hd,hl⟩
  rw[hy,hm,hd]at e1
  omega
 split at ha<;>split at hb
 ·cases ha
  simp only[VR.ok.injEq,T.mk.injEq,true_and,and_true]at hb
  obtain⟨q1,q2⟩:=two_inj (by omega) (by omega) hb
  exact fin (by omega) (restB_inj (by omega) (by omega) (by omega) (by omega) (by omega) (by omega) q2.symm)
 ·cases ha;cases hb
 ·cases ha;cases hb
 ·cases ha
  simp only[VR.ok.injEq,T.mk.injEq,true_and,and_true]at hb
  obtain⟨q1,q2⟩:=four_inj (by omega) (by omega) hb
  exact fin q1.symm (restB_inj (by omega) (by omega) (by omega) (by omega) (by omega) (by omega) q2.symm)
theorem wr_prim {d:Nat} {t:Int} {b:List UInt8} (hd:d≤16) (ht:0≤t∧t<2097152) (hf:formE 0 t false b=0) (h17:t≠17):wr d (.mk 0 t false b [])=(0,tagB 0 t false++(lenB b.length++b)):=by
 have hr:rangeB 0 t=false:=by unfold rangeB;simp;omega
 rw[wr,wrs]
 unfold wrK
 rw[if_neg (by omega),if_neg (by rw[hr];simp),if_neg (by rw[hf];omega),if_neg (by rw[hf];simp),if_neg (by simp),if_neg (by simp[h17])]
 rfl
theorem wr_seq0 {d:Nat} {ks:List T} (hd:d≤16) (h:(wrs (d+1) ks).1=0):(wr d (.mk 0 16 true [] ks)).1=0:=by
 have hf:formE 0 16 true []=0:=by decide
 rw[wr]
 unfold wrK
 rw[if_neg (by omega),if_neg (by decide),if_neg (by rw[hf];omega),if_neg (by rw[hf];simp),if_neg (by simp[h]),if_neg (by simp)]
theorem numG_min:∀(k:Nat) (n:Int) (acc:List UInt8),0≤n→n<128*256^k→(acc=[]∨0<n∨∃c r,acc=c::r∧128≤c.toNat) →
  ∃c r,numG (k+1) n acc=c::r∧c.toNat<128∧(r=[]∨0<c.toNat∨∃c2 r2,r=c2::r2∧128≤c2.toNat)
 | 0,n,acc,h0,h,hI=>by
  rw[numG,if_pos (by omega)]
  have e:=u8_small h0 (show n<256 by omega)
  refine⟨_,_,rfl,by rw[e];omega,?_⟩
  rcases hI with hI|hI|hI
  ·exact .inl hI
  ·exact .inr (.inl (by rw[e];omega))
  ·exact .inr (.inr hI)
 |k+1,n,acc,h0,h,hI=>by
  rw[numG]
  by_cases hn:n<128
  ·rw[if_pos hn]
   have e:=u8_small h0 (show n<256 by omega)
   refine⟨_,_,rfl,by rw[e];omega,?_⟩
   rcases hI with hI|hI|hI
   ·exact .inl hI
   ·exact .inr (.inl (by rw[e];omega))
   ·exact .inr (.inr hI)
  ·rw[if_neg hn]
   have e:(128*256^(k+1):Int)=256*(128*256^k):=by rw[Int.pow_succ];omega
   rw[e]at h
   refine numG_min k (n/256) _ (by omega) (by generalize(128*256^k:Int)=X at h ⊢;omega) (.inr ?_)
   by_cases hz:0<n/256
   ·exact .inl hz
   ·exact .inr ⟨_,_,rfl,by rw[u8_small (by omega) (by omega)];omega⟩
theorem numB_rInt {n:Int} (h0:0≤n) (h:n<9223372036854775808):rInt (numB n)=true:=by
 obtain⟨c,r,e,h1,h2⟩:=numG_min 8 n [] h0 (by omega) (.inl rfl)
 unfold numB
 rw[if_neg (by omega),e]
 unfold rInt g0
 have hc:c≠255:=by rintro rfl;exact absurd h1 (by decide)
 rcases h2 with rfl|h2|⟨c2,r2,rfl,h2⟩
 ·simp
 ·have hz:c≠0:=by rintro rfl;exact absurd h2 (by decide)
  cases r<;>simp[hc,hz]
 ·simp[hc];omega
theorem form_num {n:Int} (h0:0≤n) (h:n<9223372036854775808):formE 0 2 false (numB n)=0:=by
 have:=numB_rInt h0 h
 unfold formE right
 simp[this]
theorem wrW_of {t:T} (h:(wr 0 t).1=0) (hs:sz t≤65536):(wrW t).1=0:=by
 have:=wr_len 0 t
 unfold wrW
 rw[if_neg (by simp[h]),if_neg (by omega)]
theorem wr_true (d:Nat) (hd:d≤16):(wr d (.mk 0 1 false [255] [])).1=0:=by
 rw[wr_prim hd (by omega) (by decide) (by decide)]
theorem wrW_basic {p:Int} (h:p<9223372036854775808):(wrW (basicT p)).1=0:=by
 refine wrW_of (wr_seq0 (by omega) ?_) (Nat.le_trans (basic_sz p) (by decide))
 have hk:(wrs 1 (if 0≤p then [numT 2 p]else [])).1=0:=by
  split
  ·rename_i h0
   have e:(wr 1 (numT 2 p)).1=0:=by unfold numT;rw[wr_prim (by omega) (by omega) (form_num h0 h) (by decide)]
   simp[wrs,e]
  ·simp[wrs]
 rw[wrs,if_neg (by rw[wr_true 1 (by omega)];simp),if_neg (by simp[hk])]
theorem basic_inj {p q:Int} (hp: -1≤p∧p<9223372036854775808) (hq: -1≤q∧q<9223372036854775808) (h:(wrW (basicT p)).2=(wrW (basicT q)).2):p=q:=by
 have a:=readS_wrW _ (basic_low p) (wrW_basic hp.2)
 have b:=readS_wrW _ (basic_low q) (wrW_basic hq.2)
 rw[h,b]at a
 simp only[RD.ok.injEq]at a
 unfold basicT at a
 simp only[T.mk.injEq,List.cons.injEq,true_and]at a
 split at a<;>split at a
 ·unfold numT at a
  simp only[List.cons.injEq,T.mk.injEq,true_and,and_true]at a
  exact numB_inj (by omega) (by omega) a.symm
 ·cases a
 ·cases a
 ·omega
def flD (l:List UInt8):Nat:=(rev8 (l.getD 3 0)).toNat+(if l.length=5 then 256 else 0)
theorem fl_all:(List.range 512).all (fun n=>n==0||flD (wrW (flT (n:Int))).2==n)=true:=by kernel_rfl
theorem fl_one {n:Int} (h:0<n∧n≤511):(flD (wrW (flT n)).2:Int)=n:=by
 have:=List.all_eq_true.1 fl_all n.toNat (by simp;omega)
 rw[Int.toNat_of_nonneg (by omega)]at this
 simp only[Bool.or_eq_true,beq_iff_eq]at this
 omega
theorem fl_inj {a b:Int} (ha:0<a∧a≤511) (hb:0<b∧b≤511) (h:(wrW (flT a)).2=(wrW (flT b)).2):a=b:=by
 rw[←fl_one ha,←fl_one hb,h]
theorem map_inj' {α β:Type} {f:α→β} (hf:∀x y,f x=f y→x=y):∀ {l l':List α},l.map f=l'.map f→l=l'
 | [],[],_=>rfl
 | [],_::_,h=>by cases h
 |_::_,[],h=>by cases h
 |x::l,y::l',h=>by
  simp only[List.map_cons,List.cons.injEq]at h
  rw[hf x y h.1,map_inj' hf h.2]
theorem extT_inj (x y:List UInt8 × Bool × List UInt8) (h:extT x.1 x.2.1 x.2.2=extT y.1 y.2.1 y.2.2):x=y:=by
 obtain⟨a,b,c⟩:=x
 obtain⟨a',b',c'⟩:=y
 unfold extT oidT at h
 cases b<;>cases b'<;>simp at h
 ·rw[h.1,h.2]
 ·rw[h.1,h.2]
theorem eB_of (c:Crt):eB c=(extsL c).filter fun x=>x.1== [85,29,19]:=by
 unfold extsL eB eU eA eL
 split<;>split<;>split<;>split<;>simp
theorem eU_of (c:Crt):eU c=(extsL c).filter fun x=>x.1== [85,29,15]:=by
 unfold extsL eB eU eA eL
 split<;>split<;>split<;>split<;>simp
theorem certKT_take (c:Crt):(certKT c).take 7=sevT c:=by
 unfold certKT;split<;>rfl
theorem certKT_drop (c:Crt):(certKT c).drop 7=if(extsL c).length=0 then []else [.mk 2 3 true [] [.mk 0 16 true [] (extsT c)]]:=by
 unfold certKT;split<;>rfl
theorem exts_inj {c d:Crt} (h:certKT c=certKT d):extsL c=extsL d:=by
 have e:=certKT_drop c
 rw[h,certKT_drop d]at e
 split at e<;>split at e
 ·rename_i a b
  rw[List.eq_nil_of_length_eq_zero a,List.eq_nil_of_length_eq_zero b]
 ·cases e
 ·cases e
 ·simp only[List.cons.injEq,T.mk.injEq,true_and,and_true]at e
  exact(map_inj' extT_inj e).symm
theorem VRt_is {t:Int} {x:T} (h:timeS t= .ok x):VR.t (timeS t)=x:=by rw[h];rfl
theorem whole_inj {c d:Crt} (hc:CrtOK c) (hd:CrtOK d) (h:wholeT c=wholeT d):c.serial=d.serial∧c.from_=d.from_∧c.to=d.to∧c.usage=d.usage∧c.key=d.key∧c.sig=d.sig∧c.ca=d.ca∧c.path=d.path:=by
 unfold wholeT certT octT at h
 simp only[T.mk.injEq,List.cons.injEq,true_and,and_true]at h
 obtain⟨hk,_,hsig⟩:=h
 have hx:=exts_inj hk
 have hs:=certKT_take c
 rw[hk,certKT_take d]at hs
 unfold sevT numT octT at hs
 simp only[T.mk.injEq,List.cons.injEq,true_and,and_true]at hs
 obtain⟨h1,_,_,⟨h2,h3⟩,_,_,h4⟩:=hs
 obtain⟨f1,e1⟩:=hc.from_
 obtain⟨f2,e2⟩:=hd.from_
 obtain⟨g1,e3⟩:=hc.to
 obtain⟨g2,e4⟩:=hd.to
 rw[VRt_is e2,VRt_is e1]at h2
 rw[VRt_is e4,VRt_is e3]at h3
 subst h2 h3
 have hb:eB c=eB d:=by rw[eB_of,eB_of,hx]
 have hu:eU c=eU d:=by rw[eU_of,eU_of,hx]
 have s1:=hc.serial
 have s2:=hd.serial
 have u1:=hc.usage
 have u2:=hd.usage
 have p1:=hc.path
 have p2:=hd.path
 unfold pathOK at p1 p2
 simp only[Bool.and_eq_true,Bool.or_eq_true,decide_eq_true_eq,beq_iff_eq]at p1 p2
 have hca:c.ca=d.ca∧c.path=d.path:=by
  unfold eB at hb
  cases a:c.ca<;>cases b:d.ca<;>rw[a,b]at hb
  ·rw[a]at p1
   rw[b]at p2
   simp only[Bool.false_eq_true,false_or]at p1 p2
   exact⟨rfl,by omega⟩
  ·simp at hb
  ·simp at hb
  ·simp only[if_true,List.cons.injEq,Prod.mk.injEq,true_and,and_true]at hb
   exact⟨rfl,basic_inj (by omega) (by omega) hb⟩
 have hus:c.usage=d.usage:=by
  unfold eU at hu
  split at hu<;>split at hu
  ·omega
  ·cases hu
  ·cases hu
  ·simp only[List.cons.injEq,Prod.mk.injEq,true_and,and_true]at hu
   exact fl_inj (by omega) (by omega) hu
 exact⟨numB_inj (by omega) (by omega) h1.symm,timeS_inj e1 e2,timeS_inj e3 e4,hus,h4.symm,hsig,hca.1,hca.2⟩
theorem gDn_szB (B:Nat):∀(d:Dn) (ks ks':List T),(∀a∈d,a.2.length≤B)→foldE gDn ks d= .inl ks'→szs ks'≤szs ks+d.length*(B+500)
 | [],ks,ks',_,h=>by simp only[foldE]at h;cases h;simp
 |a::r,ks,ks',hl,h=>by
  rw[foldE]at h
  cases ho:oidS a.1 with
  |none=>simp only[gDn,ho]at h;cases h
  |some out=>
   simp only[gDn,ho]at h
   have ih:=gDn_szB B r _ ks' (fun x hx=>hl x (List.mem_cons_of_mem _ hx)) h
   have h1:=oidS_len ho
   have h2:=hl a (List.mem_cons_self ..)
   rw[szs_app]at ih
   simp only[szs,kidT,sz,oidT,textT,List.length_nil,List.length_cons,Nat.add_mul,Nat.one_mul]at ih ⊢
   omega
theorem dnS_szB (B:Nat) {d:Dn} {t:T} (hl:∀a∈d,a.2.length≤B) (h:dnS d= .ok t):sz t≤16*(B+500)+16:=by
 unfold dnS at h
 split at h
 ·cases h
 ·split at h
  ·cases h
  ·rename_i h16 _ ks hf
   split at h
   ·cases h
   ·cases h
    have h1:=gDn_szB B d [] ks hl hf
    have h2:d.length*(B+500)≤16*(B+500):=Nat.mul_le_mul_right _ (by omega)
    simp only[sz,szs,List.length_nil]at h1 ⊢
    omega
theorem genS_szB (B:Nat) {k:Int} {s:List UInt8} {d:Dn} {lim:Bool} {x:T} (hs:s.length≤B) (hl:∀a∈d,a.2.length≤B) (h:genS k s d lim= .ok x):sz x≤16*(B+500)+100:=by
 unfold genS at h
 split at h
 ·cases h
 ·split at h
  ·split at h
   ·cases h
   ·rename_i D hD
    split at h
    ·cases h
     have:=dnS_szB B hl hD
     simp only[sz,szs,List.length_nil];omega
    ·cases h
  ·split at h
   ·cases h
    simp only[sz,szs];omega
   ·cases h
theorem gens_szB (lim:Bool) (B:Nat):∀(gs:List Gn) (ts ts':List T),(∀g∈gs,g.2.1.length≤B∧∀a∈g.2.2,a.2.length≤B)→foldE (gG lim) ts gs= .inl ts'→szs ts'≤szs ts+gs.length*(16*(B+500)+100)
 | [],ts,ts',_,h=>by simp only[foldE]at h;cases h;simp
 |g::r,ts,ts',hl,h=>by
  rw[foldE]at h
  have hg:=hl g (List.mem_cons_self ..)
  cases ho:genS g.1 g.2.1 g.2.2 lim with
  |er e=>simp only[gG,ho]at h;cases h
  |ok x=>
   simp only[gG,ho]at h
   have ih:=gens_szB lim B r _ ts' (fun x hx=>hl x (List.mem_cons_of_mem _ hx)) h
   have h1:=genS_szB B hg.1 hg.2 ho
   rw[szs_app]at ih
   simp only[szs]at ih
   rw[List.length_cons,Nat.succ_mul]
   omega
theorem gensT_szB (lim:Bool) {gs:List Gn} (hn:gs.length≤300) (hl:∀g∈gs,g.2.1.length≤5000∧∀a∈g.2.2,a.2.length≤5000):szs (gensT lim gs)≤2^26:=by
 unfold gensT
 split
 ·rename_i ts h
  have h1:=gens_szB lim 5000 gs [] ts hl h
  have h2:gs.length*(16*(5000+500)+100)≤300*(16*(5000+500)+100):=Nat.mul_le_mul_right _ hn
  simp only[szs]at h1
  omega
 ·simp[szs]
end Go.Mini
