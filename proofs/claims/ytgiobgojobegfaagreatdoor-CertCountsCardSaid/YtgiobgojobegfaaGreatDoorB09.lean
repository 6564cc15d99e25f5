/- a certificate's law by that interpreter (part 9): what the program's functions answer, or plain laws of it; no conditions. -/
import Derived.Test.YtgiobgojobegfaaGreatDoorB08
set_option linter.all false
namespace Go.Mini
open Go Go.Mini.Nm Go.Proofs.YtgiobgojobegfaaGreatDoor
set_option maxRecDepth 100000
set_option maxHeartbeats 80000000
theorem zc (p:Int) (h:¬ 0≤p) (a:Int) (b:Bool):CallH Q 264 [.ptr 0 0,.str [50,46,53,46,50,57,46,49,57],.bool true,.agg [.int .i64 0,.int .i64 16,.bool true,.nilsl,.fsl 5 [.agg [.int .i64 0,.int .i64 1,.bool false,.bs [255],.nilsl]]]] [.cells [.int .i64 a,.bool b]]=some (db [85,29,19] true (wrW (basicT p)).2,[some (.cells [.int .i64 (cX (basicT p) (a,b)).1,.bool (cX (basicT p) (a,b)).2])]):=Jv p h a b
theorem rW (s:Int × Bool):(s.1,s.2)=s:=rfl
theorem Fl (serial scheme from_ to ks path usage:Int) (issuer subject:Dn) (keyb sigb:List UInt8) (galt gper gexc:List Gn) (iss sub key alt per exc sig:MV) (hq:¬ 0≤path) (hr:CrtR ⟨serial,scheme,issuer,subject,from_,to,ks,keyb,true,path,usage,galt,gper,gexc,sigb⟩ iss sub key alt per exc sig) (hb:CrtB ⟨serial,scheme,issuer,subject,from_,to,ks,keyb,true,path,usage,galt,gper,gexc,sigb⟩) (a:Int) (b:Bool):
  CallH Q 259 [.ptr 0 0,.agg [.int .i64 serial,.int .i64 scheme,iss,sub,.int .i64 from_,.int .i64 to,.int .i64 ks,key,.bool true,.int .i64 path,.int .i64 usage,alt,per,exc,sig]] [.cells [.int .i64 a,.bool b]]=some (.sl 5 (fx ⟨serial,scheme,issuer,subject,from_,to,ks,keyb,true,path,usage,galt,gper,gexc,sigb⟩),[some (.cells [.int .i64 (d6 ⟨serial,scheme,issuer,subject,from_,to,ks,keyb,true,path,usage,galt,gper,gexc,sigb⟩ (a,b)).1,.bool (d6 ⟨serial,scheme,issuer,subject,from_,to,ks,keyb,true,path,usage,galt,gper,gexc,sigb⟩ (a,b)).2])]):=by
 have fi:=bK hr.iss
 have fs:=bK hr.sub
 have fk:=hr.key.fs
 have fa:=hr.alt.fs
 have fp:=hr.per.fs
 have fe:=hr.exc.fs
 have fg:=hr.sig.fs
 have la:∀st,lenV false alt st=some (.int .i64 galt.length):=hr.alt.len
 have lp:∀st,lenV false per st=some (.int .i64 gper.length):=hr.per.len
 have le:∀st,lenV false exc st=some (.int .i64 gexc.length):=hr.exc.len
 have hga:=za alt galt hr.alt hb.alt false
 have hgp:=rT per gper hr.per hb.per true
 have hge:=rT exc gexc hr.exc hb.exc true
 have hea:=Hu galt hb.ba
 have heu:=Ht usage
 have z1:galt.length≤2^20:=hb.alt.2
 have z2:gper.length≤2^20:=hb.per.2
 have z3:gexc.length≤2^20:=hb.exc.2
 have hl4:=Hw gper gexc hb.bp hb.be (nz (decide (0<(gper.length:Int))) (decide (0<(gexc.length:Int))) gper gexc) (rV gper gexc)
 have hpe:decide (0<(gper.length:Int)+(gexc.length:Int))=(decide (0<(gper.length:Int))||decide (0<(gexc.length:Int))):=by rw[Bool.eq_iff_iff];simp;omega
 have hu0:(usage=0)=((usage==0)=true):=by simp
 have ha0:=jy galt
 have hp0:=jy gper
 have he0:=jy gexc
 have hs0:(gper.length+gexc.length=0)=((decide (0<(gper.length:Int))||decide (0<(gexc.length:Int)))=false):=by
  apply propext;rw[Bool.or_eq_false_iff,decide_eq_false_iff_not,decide_eq_false_iff_not];omega
 have hq':decide (0≤path)=false:=by simpa using hq
 rw[aC Q (m:=m259) rfl,vZ]
 cases hu:(usage==0)<;>cases ha:decide (0<(galt.length:Int))<;>cases hp:decide (0<(gper.length:Int))<;>cases he:decide (0<(gexc.length:Int))
 all_goals(
  rw[hp,he]at hl4
  simp only[nz,yc,if_true,if_false,Bool.false_eq_true,List.nil_append,List.append_nil,List.cons_append]at hl4
  apply ae;intro rhs hrhs
  simp(maxSteps:=4000000) (disch:=first|omega|exact aI (by(try simp only[bB.u,seval,cut,fi.a,fs.a,fk.a,fa.a,fp.a,fe.a,fg.a]);kernel_rfl)|decide) only[bB.u,seval,cut,bG,da,dM,hH,fw,rW,la,lp,le,hga,hgp,hge,hea,heu,ag,aj,hu,ha,hp,he,hpe,fi.a,fs.a,fk.a,fa.a,fp.a,fe.a,fg.a,db,ep,hq',zc path hq,Bool.or_true,Bool.or_false,hl4]
  refine(congrArg (ax _ _) (ny _ _ _ _ _ serial scheme from_ to ks path usage iss sub key alt per exc sig true _ _ rfl rfl rfl rfl)).trans ?_
  simp(maxSteps:=4000000) (disch:=first|omega|exact aI (by(try simp only[bB.u,seval,cut,fi.a,fs.a,fk.a,fa.a,fp.a,fe.a,fg.a]);kernel_rfl)|decide) only[bB.u,seval,cut,bG,da,dM,hH,fw,rW,la,lp,le,hga,hgp,hge,hea,heu,ag,aj,hu,ha,hp,he,hpe,fi.a,fs.a,fk.a,fa.a,fp.a,fe.a,fg.a,db,ep,hq',zc path hq,Bool.or_true,Bool.or_false,hl4]
  refine(congrArg (ax _ _) (oQ _ _ _ _ _ serial scheme from_ to ks path usage iss sub key alt per exc sig true _ _ rfl rfl rfl rfl)).trans ?_
  simp(maxSteps:=4000000) (disch:=first|omega|exact aI (by(try simp only[bB.u,seval,cut,fi.a,fs.a,fk.a,fa.a,fp.a,fe.a,fg.a]);kernel_rfl)|decide) only[bB.u,seval,cut,bG,da,dM,hH,fw,rW,la,lp,le,hga,hgp,hge,hea,heu,ag,aj,hu,ha,hp,he,hpe,fi.a,fs.a,fk.a,fa.a,fp.a,fe.a,fg.a,db,ep,hq',zc path hq,Bool.or_true,Bool.or_false,hl4]
  subst hrhs
  all_goals(simp only[fx,db,ep,de,eB,eU,eA,eL,d6,lL,lM,jW,jX,lN,cD,vV,pathOK,hu0,ha0,hp0,he0,hs0,hu,ha,hp,he,Bool.or_true,Bool.or_false,Bool.true_eq_false,if_neg hq,Bool.true_or,Bool.and_true,if_true,if_false,Bool.false_eq_true,List.nil_append,List.append_nil,List.cons_append,List.map_cons,List.map_nil];try rfl))
end Go.Mini
