/- a certificate's law by that interpreter (part 25): what the program's functions answer, or plain laws of it; no conditions. -/
import Derived.Test.YtgiobgojobegfaaGreatDoorB24
import Derived.Test.YtgiobgojobegfaaGreatDoorB23
import Derived.Test.YtgiobgojobegfaaGreatDoorB19
set_option linter.all false
namespace Go.Mini
open Go Go.Mini.Nm Go.Proofs.YtgiobgojobegfaaGreatDoor
set_option maxRecDepth 100000
set_option maxHeartbeats 4000000
theorem yz {d:Nat} {c t:Int} {ks:List T} (hd:d≤16) (hr:bT c t=false) (hf:aR c t true []=0) (hs:¬(c=0∧t=17)) (hk:(aP (d+1) ks).1=0):(wr d (.mk c t true [] ks)).1=0:=by
 rw[wr,gc,if_neg (by omega),if_neg (by simp[hr]),if_neg (by simp[hf]),if_neg (by simp[hf]),if_neg (by simp[hk]),if_neg (fun h=>hs ⟨h.1,h.2.1⟩)]
theorem fO {d:Nat} {ks:List T} (hd:d≤16) (hk:(aP (d+1) ks).1=0):(wr d (.mk 0 16 true [] ks)).1=0:=yz hd rfl rfl (by decide) hk
theorem zq {d:Nat} {ks:List T} (k:Int) (h0:0≤k) (h9:k≤9) (hd:d≤16) (hk:(aP (d+1) ks).1=0):(wr d (.mk 2 k true [] ks)).1=0:=
 yz hd (by unfold bT;simp;omega) rfl (by omega) hk
theorem dG {d:Nat}:∀ {a b:List T},(aP d a).1=0→(aP d b).1=0→(aP d (a++b)).1=0
 | [],_,_,h=>h
 |k::r,b,h1,h2=>by
  rw[aP]at h1
  split at h1
  ·rename_i h;exact absurd h1 h
  ·rename_i h
   split at h1
   ·rename_i h';exact absurd h1 h'
   ·rename_i h'
    have:=dG (a:=r) (b:=b) (by simpa using h') h2
    rw[List.cons_append,aP,if_neg h,if_neg (by simpa using this)]
theorem ja {d:Nat} {t:T} (h:(wr d t).1=0):∀n:Nat,(aP d (List.replicate n t)).1=0
 | 0=>rfl
 |n+1=>by rw[List.replicate_succ,aP,if_neg (by simp[h]),if_neg (by simp[ja h n])]
theorem eF {d:Nat} {t:T} (h:(wr d t).1=0):(aP d [t]).1=0:=ja h 1
theorem kX (t:T):∀n:Nat,szs (List.replicate n t)=n*sz t
 | 0=>by simp[szs]
 |n+1=>by rw[List.replicate_succ,szs,kX t n,Nat.succ_mul];omega
theorem jF {t:T} (h:(wr 0 t).1=0) (hs:sz t≤65536):(wrW t).1=0∧(wrW t).2.length≤sz t:=by
 have hl:=pN 0 t
 unfold wrW
 rw[if_neg (by simp[h]),if_neg (by omega)]
 exact⟨rfl,hl⟩
def hE:Gn:=(2,[97],[])
def gE:T:=.mk 2 2 false [97] []
theorem DP (lim:Bool):genS 2 [97] [] lim= .ok gE:=by cases lim<;>kernel_rfl
theorem wJ (lim:Bool):∀(n:Nat) (ts:List T),aG (gG lim) ts (List.replicate n hE)= .inl (ts++List.replicate n gE)
 | 0,ts=>by simp[aG]
 |n+1,ts=>by
  rw[List.replicate_succ,bw,show gG lim ts hE= .inl (ts++[gE]) by unfold gG;rw[show genS hE.1 hE.2.1 hE.2.2 lim= .ok gE from DP lim]]
  simp only
  rw[wJ lim n,List.append_assoc]
  rfl
theorem n7 (lim:Bool) (n:Nat):gensT lim (List.replicate n hE)=List.replicate n gE:=by unfold gensT;rw[wJ];simp
theorem sd (lim:Bool) (n:Nat) (s:MS):dd lim (List.replicate n hE) s=bl (decide (n≤256)) s:=by unfold dd;rw[wJ];simp
theorem Ib:∀n:Nat,Gl (List.replicate n (hV [97])) (List.replicate n hE)
 | 0=>.nil
 |n+1=>.cons (.inr ⟨rfl,rfl⟩) (Ib n)
theorem zr (n:Nat):Gs (.sl 3 (List.replicate n (hV [97]))) (List.replicate n hE):=.inl ⟨_,rfl,Ib n⟩
theorem se:Gs .nilsl (List.replicate 0 hE):=.inr ⟨rfl,rfl⟩
theorem nG:okLens []:=⟨by simp,by intro a h;cases h⟩
theorem up (n:Nat):okG (List.replicate n hE):=by
 intro g hg
 rw[List.mem_replicate]at hg
 obtain⟨_,rfl⟩:=hg
 exact⟨by simp[hE],nG⟩
theorem re (lim:Bool) (n:Nat):szs (gensT lim (List.replicate n hE))=n*17:=by rw[n7,kX];rfl
def cC (a p e:Nat):Crt:=⟨1,1,[],[],0,0,1,[],false,-1,0,List.replicate a hE,List.replicate p hE,List.replicate e hE,[]⟩
theorem lZ {a p e:Nat} (ha:a≤300) (hp:p≤300) (he:e≤300):CrtB (cC a p e):=
 ⟨nG,nG,by simp[cC],⟨up a,by simp only[cC,List.length_replicate];omega⟩,⟨up p,by simp only[cC,List.length_replicate];omega⟩,⟨up e,by simp only[cC,List.length_replicate];omega⟩,by simp[cC],by show szs (gensT false (List.replicate a hE))≤_;rw[re];omega,by show szs (gensT true (List.replicate p hE))≤_;rw[re];omega,by show szs (gensT true (List.replicate e hE))≤_;rw[re];omega,by simp[cC],by simp[cC]⟩
theorem DQ (n:Nat) (hn:n≤300):(wrW (altT (List.replicate n hE))).1=0∧(wrW (altT (List.replicate n hE))).2.length≤20000:=by
 have hs:sz (altT (List.replicate n hE))≤20000:=by
  unfold altT;rw[sz,re];simp;omega
 have hw:(wr 0 (altT (List.replicate n hE))).1=0:=by
  unfold altT;rw[n7];exact fO (by omega) (ja kr n)
 obtain⟨h1,h2⟩:=jF hw (by omega)
 exact⟨h1,by omega⟩
theorem BC (k:Int) (h0:0≤k) (h9:k≤9) (n:Nat) (hn:n≤300):(aP 1 (cD k (List.replicate n hE))).1=0∧szs (cD k (List.replicate n hE))≤10000:=by
 unfold cD
 split
 ·exact⟨rfl,by simp[szs]⟩
 ·rw[n7,List.map_replicate]
  refine⟨eF (zq k h0 h9 (by omega) (ja kr n)),?_⟩
  rw[szs,sz,kX,szs,show sz (wt gE)=33 from rfl]
  simp;omega
theorem DR (p e:Nat) (hp:p≤300) (he:e≤300):(wrW (limT (List.replicate p hE) (List.replicate e hE))).1=0∧(wrW (limT (List.replicate p hE) (List.replicate e hE))).2.length≤20100:=by
 obtain⟨a1,a2⟩:=BC 0 (by omega) (by omega) p hp
 obtain⟨b1,b2⟩:=BC 1 (by omega) (by omega) e he
 have hs:sz (limT (List.replicate p hE) (List.replicate e hE))≤20100:=by
  unfold limT;rw[sz,eE];simp;omega
 have hw:(wr 0 (limT (List.replicate p hE) (List.replicate e hE))).1=0:=fO (by omega) (dG a1 b1)
 obtain⟨h1,h2⟩:=jF hw (by omega)
 exact⟨h1,by omega⟩
theorem Ic (a p e:Nat):lM (cC a p e) (lL (cC a p e) (dD (cC a p e).keyScheme (VR.s (dnS (cC a p e).subject) (jz (cC a p e) (0,false)))))=(0,false):=by kernel_rfl
theorem tI {t:T} (h:(wrW t).1=0) (s:MS):cX t s=s:=by
 unfold cX;rw[h];simp
def sf (a p e:Nat):MS:=if a≤256∧p≤256∧e≤256 then(0,false)else(30,false)
theorem DT {a p e:Nat} (ha:a≤300) (hp:p≤300) (he:e≤300):dx (cC a p e)=sf a p e:=by
 have h4:d6 (cC a p e) (dD (cC a p e).keyScheme (VR.s (dnS (cC a p e).subject) (jz (cC a p e) (0,false))))=sf a p e:=by
  unfold d6
  rw[Ic]
  have e3:jW (cC a p e) (0,false)=bl (decide (a≤256)) (0,false):=by
   unfold jW
   rw[show(cC a p e).alt=List.replicate a hE from rfl,List.length_replicate]
   split
   ·rename_i h;rw[h];rfl
   ·rw[tI (DQ a ha).1,sd]
  have l1:∀(n:Nat) (s:MS),lN (List.replicate n hE) s=bl (decide (n≤256)) s:=by
   intro n s
   unfold lN
   rw[List.length_replicate]
   split
   ·rename_i h;rw[h];rfl
   ·rw[sd]
  have e4:∀s,jX (cC a p e) s=bl (decide (e≤256)) (bl (decide (p≤256)) s):=by
   intro s
   unfold jX
   rw[show(cC a p e).permit=List.replicate p hE from rfl,show(cC a p e).exclude=List.replicate e hE from rfl,List.length_replicate,List.length_replicate]
   split
   ·rename_i h
    have q1:p=0:=by omega
    have q2:e=0:=by omega
    rw[q1,q2];rfl
   ·rw[tI (DR p e hp he).1,l1,l1]
  rw[e3,e4]
  unfold sf bl cJ
  by_cases q1:a≤256<;>by_cases q2:p≤256<;>by_cases q3:e≤256<;>simp[q1,q2,q3]
 unfold dx iS
 rw[h4]
 unfold sf
 by_cases h:a≤256∧p≤256∧e≤256
 ·rw[if_pos h];show dD 1 (0,false)=(0,false);kernel_rfl
 ·rw[if_neg h];show dD 1 (30,false)=(30,false);kernel_rfl
theorem F6 {a p e:Nat} (ha:a≤300) (hp:p≤300) (he:e≤300):(wrW (bc (cC a p e))).1=0:=by
 have hx:(aP 4 (b9 (cC a p e))).1=0∧szs (b9 (cC a p e))≤41000:=by
  obtain⟨_,a2⟩:=DQ a ha
  obtain⟨_,l2⟩:=DR p e hp he
  unfold b9 de
  rw[show eB (cC a p e)=[]from rfl,show eU (cC a p e)=[]from rfl,List.nil_append,List.nil_append,List.map_append]
  have x1:∀(o b:List UInt8) (cr:Bool),o=[85,29,17]∨o=[85,29,30]→(wr 4 (jv o cr b)).1=0:=by
   intro o b cr h
   rcases h with rfl|rfl<;>cases cr<;>kernel_rfl
  constructor
  ·refine dG ?_ ?_
   ·unfold eA
    split
    ·rfl
    ·exact eF (x1 _ _ _ (.inl rfl))
   ·unfold eL
    split
    ·rfl
    ·exact eF (x1 _ _ _ (.inr rfl))
  ·rw[eE]
   have s1:szs ((eA (cC a p e)).map fun x=>jv x.1 x.2.1 x.2.2)≤20100:=by
    unfold eA
    split
    ·simp[szs]
    ·have:=wj [85,29,17] false (wrW (altT (cC a p e).alt)).2
     have a2':(wrW (altT (cC a p e).alt)).2.length≤20000:=a2
     simp only[List.map_cons,List.map_nil,szs,List.length_cons,List.length_nil]at this ⊢
     omega
   have s2:szs ((eL (cC a p e)).map fun x=>jv x.1 x.2.1 x.2.2)≤20200:=by
    unfold eL
    split
    ·simp[szs]
    ·have:=wj [85,29,30] true (wrW (limT (cC a p e).permit (cC a p e).exclude)).2
     have l2':(wrW (limT (cC a p e).permit (cC a p e).exclude)).2.length≤20100:=l2
     simp only[List.map_cons,List.map_nil,szs,List.length_cons,List.length_nil]at this ⊢
     omega
   omega
 have hv:(aP 2 (eq (cC a p e))).1=0:=by kernel_rfl
 have hv2:szs (eq (cC a p e))≤5000:=of_decide_eq_true kr
 have hk:(aP 2 (cF (cC a p e))).1=0∧szs (cF (cC a p e))≤47000:=by
  unfold cF
  split
  ·exact⟨hv,by omega⟩
  ·refine⟨dG hv (eF (zq 3 (by omega) (by omega) (by omega) (eF (fO (by omega) hx.1)))),?_⟩
   rw[eE,szs,szs,sz,szs,sz,szs]
   simp only[List.length_nil]
   omega
 have hw:(wr 0 (bc (cC a p e))).1=0:=by
  unfold bc fQ
  refine fO (by omega) ?_
  refine dG (a:=[_]) (b:=[_,_]) (eF (fO (by omega) hk.1)) ?_
  kernel_rfl
 refine(jF hw ?_).1
 have h2:szs [bx (cC a p e).scheme,fj (cC a p e).sig]≤1000:=of_decide_eq_true kr
 unfold bc fQ
 rw[sz,szs,sz]
 simp only[List.length_nil]
 omega
theorem zt {a p e:Nat} (ha:a≤256) (hp:p≤256) (he:e≤256):(cm (dx (cC a p e)) (bc (cC a p e))).1=0:=by
 rw[DT (by omega) (by omega) (by omega)]
 unfold sf
 rw[if_pos ⟨ha,hp,he⟩]
 unfold cm
 simp only[ne_eq,not_true_eq_false,if_false,Bool.false_eq_true]
 exact F6 (by omega) (by omega) (by omega)
theorem zu {a p e:Nat} (ha:a≤300) (hp:p≤300) (he:e≤300) (h:¬(a≤256∧p≤256∧e≤256)):cm (dx (cC a p e)) (bc (cC a p e))=(30,[]):=by
 rw[DT ha hp he]
 unfold sf
 rw[if_neg h]
 rfl
theorem nH:∃f:Int,Call Q 14 [.bs []]=some (.tup [.agg [.int .i64 0,.int .i64 0,.nilsl,.nilsl,.int .i64 0,.int .i64 0,.int .i64 0,.nilsl,.bool false,.int .i64 0,.int .i64 0,.nilsl,.nilsl,.nilsl,.nilsl],.int .i64 f]):=⟨20,Call_iff.2 ⟨3000,by kernel_rfl⟩⟩
theorem eG {w:MV} {n:Nat} (h:Gs w (List.replicate n hE)) (st:DS):lenV false w st=some (.int .i64 n):=by have:=h.len st;rwa [List.length_replicate]at this
theorem IY (n:Nat) (hn:n≤300):am bL (RunL Q m7k0 m7b0 [.blk 0,.code aL] (bz n 0 (List.replicate n (hV [97])) n))=some (.bool true):=by
 have hl:(List.replicate n (hV [97])).length=n:=by simp
 have e1:=oS (cC n 0 0) .nilsl .nilsl .nilsl _ .nilsl .nilsl .nilsl ⟨.inr ⟨rfl,rfl⟩,.inr ⟨rfl,rfl⟩,.nil,(zr n),se,se,.nil⟩ (lZ (by omega) (by omega) (by omega))
 by_cases h:n≤256
 ·have hw:=zt (a:=n) (p:=0) (e:=0) (by omega) (by omega) (by omega)
  obtain⟨hok,_,_⟩:=lQ hw
  obtain⟨w,p,x,gw,gp,gx,e2⟩:=wI (cC n 0 0) (lZ (by omega) (by omega) (by omega)) (lP _ (lZ (by omega) (by omega) (by omega))) hw (r8 hok) (r9 hok)
  rw[hw]at e1
  exact H3 n h _ hl _ 1 1 0 0 1 (-1) 0 _ _ _ w p x _ false (eN _) (eN _) (cT _) gw.fs gp.fs gx.fs (cT _) n 0 0 (eG gw) (eG gp) (eG gx) (by omega) e1 e2
 ·rw[zu (by omega) (by omega) (by omega) (by omega)]at e1
  obtain⟨f,e2⟩:=nH
  exact H4 n (by omega) hn _ hl f e1 e2
theorem IZ (n:Nat) (hn:n≤300):am bL (RunL Q m7k0 m7b0 [.blk 0,.code aL] (bz n 1 (List.replicate n (hV [97])) n))=some (.bool true):=by
 have hl:(List.replicate n (hV [97])).length=n:=by simp
 have e1:=oS (cC 0 n 0) .nilsl .nilsl .nilsl .nilsl _ .nilsl .nilsl ⟨.inr ⟨rfl,rfl⟩,.inr ⟨rfl,rfl⟩,.nil,se,(zr n),se,.nil⟩ (lZ (by omega) (by omega) (by omega))
 by_cases h:n≤256
 ·have hw:=zt (a:=0) (p:=n) (e:=0) (by omega) (by omega) (by omega)
  obtain⟨hok,_,_⟩:=lQ hw
  obtain⟨w,p,x,gw,gp,gx,e2⟩:=wI (cC 0 n 0) (lZ (by omega) (by omega) (by omega)) (lP _ (lZ (by omega) (by omega) (by omega))) hw (r8 hok) (r9 hok)
  rw[hw]at e1
  exact H5 n h _ hl _ 1 1 0 0 1 (-1) 0 _ _ _ w p x _ false (eN _) (eN _) (cT _) gw.fs gp.fs gx.fs (cT _) 0 n 0 (eG gw) (eG gp) (eG gx) (by omega) e1 e2
 ·rw[zu (by omega) (by omega) (by omega) (by omega)]at e1
  obtain⟨f,e2⟩:=nH
  exact H6 n (by omega) hn _ hl f e1 e2
theorem I0 (n:Nat) (hn:n≤300):am bL (RunL Q m7k0 m7b0 [.blk 0,.code aL] (bz n 2 (List.replicate n (hV [97])) n))=some (.bool true):=by
 have hl:(List.replicate n (hV [97])).length=n:=by simp
 have e1:=oS (cC 0 0 n) .nilsl .nilsl .nilsl .nilsl .nilsl _ .nilsl ⟨.inr ⟨rfl,rfl⟩,.inr ⟨rfl,rfl⟩,.nil,se,se,(zr n),.nil⟩ (lZ (by omega) (by omega) (by omega))
 by_cases h:n≤256
 ·have hw:=zt (a:=0) (p:=0) (e:=n) (by omega) (by omega) (by omega)
  obtain⟨hok,_,_⟩:=lQ hw
  obtain⟨w,p,x,gw,gp,gx,e2⟩:=wI (cC 0 0 n) (lZ (by omega) (by omega) (by omega)) (lP _ (lZ (by omega) (by omega) (by omega))) hw (r8 hok) (r9 hok)
  rw[hw]at e1
  exact H7 n h _ hl _ 1 1 0 0 1 (-1) 0 _ _ _ w p x _ false (eN _) (eN _) (cT _) gw.fs gp.fs gx.fs (cT _) 0 0 n (eG gw) (eG gp) (eG gx) (by omega) e1 e2
 ·rw[zu (by omega) (by omega) (by omega) (by omega)]at e1
  obtain⟨f,e2⟩:=nH
  exact H8 n (by omega) hn _ hl f e1 e2
end Go.Mini
