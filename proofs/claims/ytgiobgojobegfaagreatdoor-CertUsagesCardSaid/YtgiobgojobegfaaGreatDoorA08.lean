/- a certificate's law by that interpreter (part 8): what the program's functions answer, or plain laws of it; no conditions. -/
import Derived.Test.YtgiobgojobegfaaGreatDoorA07
set_option linter.all false
namespace Go.Mini
open Go Go.Mini.Nm Go.Proofs.YtgiobgojobegfaaGreatDoor
set_option maxRecDepth 100000
set_option maxHeartbeats 80000000
theorem e_b0' (p:Int) (h:¬ 0≤p) (a:Int) (b:Bool):CallH Q 264 [.ptr 0 0,.str [50,46,53,46,50,57,46,49,57],.bool true,.agg [.int .i64 0,.int .i64 16,.bool true,.nilsl,.fsl 5 [.agg [.int .i64 0,.int .i64 1,.bool false,.bs [255],.nilsl]]]] [.cells [.int .i64 a,.bool b]]=some (extV [85,29,19] true (wrW (basicT p)).2,[some (.cells [.int .i64 (extS (basicT p) (a,b)).1,.bool (extS (basicT p) (a,b)).2])]):=e_b0 p h a b
theorem ms_eta1 (s:Int × Bool):(s.1,s.2)=s:=rfl
theorem h_exts1 (serial scheme from_ to ks path usage:Int) (issuer subject:Dn) (keyb sigb:List UInt8) (galt gper gexc:List Gn) (iss sub key alt per exc sig:MV) (hq:¬ 0≤path) (hr:CrtR ⟨serial,scheme,issuer,subject,from_,to,ks,keyb,true,path,usage,galt,gper,gexc,sigb⟩ iss sub key alt per exc sig) (hb:CrtB ⟨serial,scheme,issuer,subject,from_,to,ks,keyb,true,path,usage,galt,gper,gexc,sigb⟩) (a:Int) (b:Bool):
  CallH Q 259 [.ptr 0 0,.agg [.int .i64 serial,.int .i64 scheme,iss,sub,.int .i64 from_,.int .i64 to,.int .i64 ks,key,.bool true,.int .i64 path,.int .i64 usage,alt,per,exc,sig]] [.cells [.int .i64 a,.bool b]]=some (.sl 5 (extsV ⟨serial,scheme,issuer,subject,from_,to,ks,keyb,true,path,usage,galt,gper,gexc,sigb⟩),[some (.cells [.int .i64 (extsS ⟨serial,scheme,issuer,subject,from_,to,ks,keyb,true,path,usage,galt,gper,gexc,sigb⟩ (a,b)).1,.bool (extsS ⟨serial,scheme,issuer,subject,from_,to,ks,keyb,true,path,usage,galt,gper,gexc,sigb⟩ (a,b)).2])]):=by
 have fi:=dir_fs hr.iss
 have fs:=dir_fs hr.sub
 have fk:=hr.key.fs
 have fa:=hr.alt.fs
 have fp:=hr.per.fs
 have fe:=hr.exc.fs
 have fg:=hr.sig.fs
 have la:∀st,lenV false alt st=some (.int .i64 galt.length):=hr.alt.len
 have lp:∀st,lenV false per st=some (.int .i64 gper.length):=hr.per.len
 have le:∀st,lenV false exc st=some (.int .i64 gexc.length):=hr.exc.len
 have hga:=h_gp alt galt hr.alt hb.alt false
 have hgp:=h_gw per gper hr.per hb.per true
 have hge:=h_gw exc gexc hr.exc hb.exc true
 have hea:=e_a galt hb.ba
 have heu:=e_u usage
 have z1:galt.length≤2^20:=hb.alt.2
 have z2:gper.length≤2^20:=hb.per.2
 have z3:gexc.length≤2^20:=hb.exc.2
 have hl4:=e_l gper gexc hb.bp hb.be (limV (decide (0<(gper.length:Int))) (decide (0<(gexc.length:Int))) gper gexc) (limV_ok gper gexc)
 have hpe:decide (0<(gper.length:Int)+(gexc.length:Int))=(decide (0<(gper.length:Int))||decide (0<(gexc.length:Int))):=by rw[Bool.eq_iff_iff];simp;omega
 have hu0:(usage=0)=((usage==0)=true):=by simp
 have ha0:=len0 galt
 have hp0:=len0 gper
 have he0:=len0 gexc
 have hs0:(gper.length+gexc.length=0)=((decide (0<(gper.length:Int))||decide (0<(gexc.length:Int)))=false):=by
  apply propext;rw[Bool.or_eq_false_iff,decide_eq_false_iff_not,decide_eq_false_iff_not];omega
 have hq':decide (0≤path)=false:=by simpa using hq
 rw[CallH_fn Q (m:=m259) rfl,m_exts]
 cases hu:(usage==0)<;>cases ha:decide (0<(galt.length:Int))<;>cases hp:decide (0<(gper.length:Int))<;>cases he:decide (0<(gexc.length:Int))
 all_goals(
  rw[hp,he]at hl4
  simp only[limV,atV,if_true,if_false,Bool.false_eq_true,List.nil_append,List.append_nil,List.cons_append]at hl4
  apply hide;intro rhs hrhs
  simp(maxSteps:=4000000) (disch:=first|omega|exact ok_of (by(try simp only[bA.u,seval,cut,if_pos,if_neg,fi.a,fs.a,fk.a,fa.a,fp.a,fe.a,fg.a]);kernel_rfl)|decide) only[bA.u,seval,cut,if_pos,if_neg,c_seqF,c_seq,c_seq0,c_at,c_flags,ms_eta1,la,lp,le,hga,hgp,hge,hea,heu,Run_nil,reach,hu,ha,hp,he,hpe,fi.a,fs.a,fk.a,fa.a,fp.a,fe.a,fg.a,extV,boolV,hq',e_b0' path hq,Bool.or_true,Bool.or_false,hl4]
  refine(congrArg (finH _ _) (x_path_ok _ _ _ _ _ serial scheme from_ to ks path usage iss sub key alt per exc sig true _ _ rfl rfl rfl rfl)).trans ?_
  simp(maxSteps:=4000000) (disch:=first|omega|exact ok_of (by(try simp only[bA.u,seval,cut,if_pos,if_neg,fi.a,fs.a,fk.a,fa.a,fp.a,fe.a,fg.a]);kernel_rfl)|decide) only[bA.u,seval,cut,if_pos,if_neg,c_seqF,c_seq,c_seq0,c_at,c_flags,ms_eta1,la,lp,le,hga,hgp,hge,hea,heu,Run_nil,reach,hu,ha,hp,he,hpe,fi.a,fs.a,fk.a,fa.a,fp.a,fe.a,fg.a,extV,boolV,hq',e_b0' path hq,Bool.or_true,Bool.or_false,hl4]
  refine(congrArg (finH _ _) (x_use_ok _ _ _ _ _ serial scheme from_ to ks path usage iss sub key alt per exc sig true _ _ rfl rfl rfl rfl)).trans ?_
  simp(maxSteps:=4000000) (disch:=first|omega|exact ok_of (by(try simp only[bA.u,seval,cut,if_pos,if_neg,fi.a,fs.a,fk.a,fa.a,fp.a,fe.a,fg.a]);kernel_rfl)|decide) only[bA.u,seval,cut,if_pos,if_neg,c_seqF,c_seq,c_seq0,c_at,c_flags,ms_eta1,la,lp,le,hga,hgp,hge,hea,heu,Run_nil,reach,hu,ha,hp,he,hpe,fi.a,fs.a,fk.a,fa.a,fp.a,fe.a,fg.a,extV,boolV,hq',e_b0' path hq,Bool.or_true,Bool.or_false,hl4]
  subst hrhs
  all_goals(simp only[extsV,extV,boolV,extsL,eB,eU,eA,eL,extsS,exts1,exts2,exts3,exts4,limS,limK,extB,pathOK,hu0,ha0,hp0,he0,hs0,hu,ha,hp,he,Bool.or_true,Bool.or_false,Bool.true_eq_false,if_neg hq,Bool.true_or,Bool.and_true,if_true,if_false,Bool.false_eq_true,List.nil_append,List.append_nil,List.cons_append,List.map_cons,List.map_nil];try rfl))
end Go.Mini
