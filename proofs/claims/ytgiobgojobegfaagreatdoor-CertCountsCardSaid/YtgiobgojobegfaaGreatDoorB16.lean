/- a certificate's law by that interpreter (part 16): what the program's functions answer, or plain laws of it; no conditions. -/
import Derived.Test.YtgiobgojobegfaaGreatDoorB11
set_option linter.all false
namespace Go.Mini
open Go Go.Mini.Nm Go.Proofs.YtgiobgojobegfaaGreatDoor
set_option maxRecDepth 100000
set_option maxHeartbeats 4000000
theorem lU:∀(l:List UInt8) (a:Nat),l.foldl (fun n c=>n*256+c.toNat) a=a*256^l.length+aU l
 | [],a=>by simp[aU]
 |c::l,a=>by
  unfold aU
  rw[List.foldl_cons,List.foldl_cons,lU l,lU l,List.length_cons,Nat.pow_succ,Nat.add_mul,Nat.mul_assoc,Nat.mul_comm 256]
  simp only[Nat.zero_mul,Nat.zero_add]
  omega
theorem lV (c:UInt8) (l:List UInt8):aU (c::l)=c.toNat*256^l.length+aU l:=by
 have:=lU l c.toNat
 unfold aU
 rw[List.foldl_cons,Nat.zero_mul,Nat.zero_add,this]
 rfl
theorem ib {n:Int} (h0:0≤n) (h:n<256):(UInt8.ofNat n.toNat).toNat=n.toNat:=by
 simp only[UInt8.toNat_ofNat'];omega
theorem ww:∀(k:Nat) (n:Int) (acc:List UInt8),0≤n→n<128*256^k→aU (eJ (k+1) n acc)=n.toNat*256^acc.length+aU acc
 | 0,n,acc,h0,h=>by
  rw[eJ,if_pos (by omega),lV,ib h0 (by omega)]
 |k+1,n,acc,h0,h=>by
  rw[eJ]
  by_cases hn:n<128
  ·rw[if_pos hn,lV,ib h0 (by omega)]
  ·have e:(128*256^(k+1):Int)=256*(128*256^k):=by rw[Int.pow_succ];omega
   rw[e]at h
   rw[if_neg hn,ww k (n/256) _ (by omega) (by generalize(128*256^k:Int)=X at h ⊢;omega),lV,ib (by omega) (by omega),List.length_cons,Nat.pow_succ]
   have e2:n.toNat=(n/256).toNat*256+(n%256).toNat:=by omega
   rw[e2,Nat.add_mul,Nat.mul_comm (256^acc.length) 256,←Nat.mul_assoc,Nat.add_assoc]
theorem wy {n:Int} (h0:0≤n) (h:n<9223372036854775808):aU (aE n)=n.toNat:=by
 unfold aE
 rw[if_neg (by omega),ww 8 n [] h0 (by omega)]
 simp[aU]
theorem yj {d:Nat} {t:Int} {b:List UInt8} (hd:d≤16) (ht:0≤t∧t<2097152) (hf:aR 0 t false b=0) (h17:t≠17):wr d (.mk 0 t false b [])=(0,cw 0 t false++(ch b.length++b)):=by
 have hr:bT 0 t=false:=by unfold bT;simp;omega
 rw[wr,aP]
 unfold gc
 rw[if_neg (by omega),if_neg (by rw[hr];simp),if_neg (by rw[hf];omega),if_neg (by rw[hf];simp),if_neg (by simp),if_neg (by simp[h17])]
 rfl
theorem FB {d:Nat} {ks:List T} (hd:d≤16) (h:(aP (d+1) ks).1=0):(wr d (.mk 0 16 true [] ks)).1=0:=by
 have hf:aR 0 16 true []=0:=by decide
 rw[wr]
 unfold gc
 rw[if_neg (by omega),if_neg (by decide),if_neg (by rw[hf];omega),if_neg (by rw[hf];simp),if_neg (by simp[h]),if_neg (by simp)]
theorem wz:∀(k:Nat) (n:Int) (acc:List UInt8),0≤n→n<128*256^k→(acc=[]∨0<n∨∃c r,acc=c::r∧128≤c.toNat) →
  ∃c r,eJ (k+1) n acc=c::r∧c.toNat<128∧(r=[]∨0<c.toNat∨∃c2 r2,r=c2::r2∧128≤c2.toNat)
 | 0,n,acc,h0,h,hI=>by
  rw[eJ,if_pos (by omega)]
  have e:=ib h0 (show n<256 by omega)
  refine⟨_,_,rfl,by rw[e];omega,?_⟩
  rcases hI with hI|hI|hI
  ·exact .inl hI
  ·exact .inr (.inl (by rw[e];omega))
  ·exact .inr (.inr hI)
 |k+1,n,acc,h0,h,hI=>by
  rw[eJ]
  by_cases hn:n<128
  ·rw[if_pos hn]
   have e:=ib h0 (show n<256 by omega)
   refine⟨_,_,rfl,by rw[e];omega,?_⟩
   rcases hI with hI|hI|hI
   ·exact .inl hI
   ·exact .inr (.inl (by rw[e];omega))
   ·exact .inr (.inr hI)
  ·rw[if_neg hn]
   have e:(128*256^(k+1):Int)=256*(128*256^k):=by rw[Int.pow_succ];omega
   rw[e]at h
   refine wz k (n/256) _ (by omega) (by generalize(128*256^k:Int)=X at h ⊢;omega) (.inr ?_)
   by_cases hz:0<n/256
   ·exact .inl hz
   ·exact .inr ⟨_,_,rfl,by rw[ib (by omega) (by omega)];omega⟩
theorem Bf {n:Int} (h0:0≤n) (h:n<9223372036854775808):m8 (aE n)=true:=by
 obtain⟨c,r,e,h1,h2⟩:=wz 8 n [] h0 (by omega) (.inl rfl)
 unfold aE
 rw[if_neg (by omega),e]
 unfold m8 g0
 have hc:c≠255:=by rintro rfl;exact absurd h1 (by decide)
 rcases h2 with rfl|h2|⟨c2,r2,rfl,h2⟩
 ·simp
 ·have hz:c≠0:=by rintro rfl;exact absurd h2 (by decide)
  cases r<;>simp[hc,hz]
 ·simp[hc];omega
theorem Dg {n:Int} (h0:0≤n) (h:n<9223372036854775808):aR 0 2 false (aE n)=0:=by
 have:=Bf h0 h
 unfold aR right
 simp[this]
theorem HL {t:T} (h:(wr 0 t).1=0) (hs:sz t≤65536):(wrW t).1=0:=by
 have:=pN 0 t
 unfold wrW
 rw[if_neg (by simp[h]),if_neg (by omega)]
theorem FC (d:Nat) (hd:d≤16):(wr d (.mk 0 1 false [255] [])).1=0:=by
 rw[yj hd (by omega) (by decide) (by decide)]
theorem Bg {p:Int} (h:p<9223372036854775808):(wrW (basicT p)).1=0:=by
 refine HL (FB (by omega) ?_) (Nat.le_trans (oP p) (by decide))
 have hk:(aP 1 (if 0≤p then [cB 2 p]else [])).1=0:=by
  split
  ·rename_i h0
   have e:(wr 1 (cB 2 p)).1=0:=by unfold cB;rw[yj (by omega) (by omega) (Dg h0 h) (by decide)]
   simp[aP,e]
  ·simp[aP]
 rw[aP,if_neg (by rw[FC 1 (by omega)];simp),if_neg (by simp[hk])]
end Go.Mini
