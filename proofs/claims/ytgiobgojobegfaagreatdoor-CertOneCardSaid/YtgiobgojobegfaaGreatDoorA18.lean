/- a certificate's law by that interpreter (part 18): what the program's functions answer, or plain laws of it; no conditions. -/
import Derived.Test.YtgiobgojobegfaaGreatDoorA16
import Derived.Test.YtgiobgojobegfaaGreatDoorA17
set_option linter.all false
namespace Go.Mini
open Go Go.Mini.Nm Go.Proofs.YtgiobgojobegfaaGreatDoor
set_option maxRecDepth 100000
set_option maxHeartbeats 80000000
def one_sw : MCode := (.seq (.rg [oV 42 (.mv (.v 1))])
  (.block 0 (.seq (.rg [oT 44 (.bin .eql (.v 42) (.c (.int .i64 0))),
  oV 43 (.mv (.t 44))])
  (.cond (.v 43) (.rg [oT 45 (.fad 0 (.v 7)),
  oT 46 (.load false 1 (.t 45)),
  oT 47 (.bin .xor (.t 46) (.c (.int .i64 1))),
  oT 48 (.fad 0 (.v 7)),
  oN (.store 1 (.t 48) (.t 47))])
  (.seq (.rg [oT 50 (.bin .eql (.v 42) (.c (.int .i64 1))),
  oV 49 (.mv (.t 50))])
  (.cond (.v 49) (.rg [oT 51 (.fad 4 (.v 7)),
  oT 52 (.load false 1 (.t 51)),
  oT 53 (.bin .xor (.t 52) (.c (.int .i64 1))),
  oT 54 (.fad 4 (.v 7)),
  oN (.store 1 (.t 54) (.t 53))])
  (.seq (.rg [oT 56 (.bin .eql (.v 42) (.c (.int .i64 2))),
  oV 55 (.mv (.t 56))])
  (.cond (.v 55) (.rg [oT 57 (.fad 5 (.v 7)),
  oT 58 (.load false 1 (.t 57)),
  oT 59 (.bin .xor (.t 58) (.c (.int .i64 1))),
  oT 60 (.fad 5 (.v 7)),
  oN (.store 1 (.t 60) (.t 59))])
  (.seq (.rg [oT 62 (.bin .eql (.v 42) (.c (.int .i64 3))),
  oV 61 (.mv (.t 62))])
  (.cond (.v 61) (.rg [oT 63 (.fad 10 (.v 7)),
  oT 64 (.load false 1 (.t 63)),
  oT 65 (.bin .xor (.t 64) (.c (.int .i64 256))),
  oT 66 (.fad 10 (.v 7)),
  oN (.store 1 (.t 66) (.t 65))])
  (.seq (.rg [oT 68 (.bin .eql (.v 42) (.c (.int .i64 4))),
  oV 67 (.mv (.t 68))])
  (.cond (.v 67) (.rg [oT 69 (.fad 7 (.v 2)),
  oT 70 (.load false 1 (.t 69)),
  oT 71 (.bslB 1 [(0,.c (.int .u8 0))]),
  oT 72 (.call 12 [.t 70,.t 71]),
  oT 73 (.fad 7 (.v 7)),
  oN (.store 1 (.t 73) (.t 72))])
  (.seq (.rg [oT 75 (.bin .eql (.v 42) (.c (.int .i64 5))),
  oV 74 (.mv (.t 75))])
  (.cond (.v 74) (.rg [oT 76 (.fad 14 (.v 2)),
  oT 77 (.load false 1 (.t 76)),
  oT 78 (.bslB 1 [(0,.c (.int .u8 0))]),
  oT 79 (.call 12 [.t 77,.t 78]),
  oT 80 (.fad 14 (.v 7)),
  oN (.store 1 (.t 80) (.t 79))])
  (.seq (.rg [oT 82 (.bin .eql (.v 42) (.c (.int .i64 6))),
  oV 81 (.mv (.t 82))])
  (.cond (.v 81) (.rg [oT 83 (.fad 8 (.v 2)),
  oT 84 (.load false 1 (.t 83)),
  oT 85 (.un .not (.t 84)),
  oT 86 (.fad 8 (.v 7)),
  oN (.store 1 (.t 86) (.t 85))])
  (.seq (.rg [oT 88 (.bin .eql (.v 42) (.c (.int .i64 7))),
  oV 87 (.mv (.t 88))])
  (.cond (.v 87) (.rg [oT 89 (.fad 9 (.v 7)),
  oT 90 (.load false 1 (.t 89)),
  oT 91 (.bin .xor (.t 90) (.c (.int .i64 1))),
  oT 92 (.fad 9 (.v 7)),
  oN (.store 1 (.t 92) (.t 91))])
  (.seq (.rg [oV 4 (.mv (.c (.bool true)))])
  (.ret))))))))))))))))))))
def one_tail : MCode := (.seq (.rg [oT 94 (.load true 15 (.v 7)),
  oT 95 (.call 11 [.t 94]),
  oT 93 (.mv (.t 95)),
  oT 96 (.ext 0 (.t 93)),
  oT 97 (.ext 1 (.t 93)),
  oV 8 (.mv (.t 96)),
  oV 9 (.mv (.t 97))])
  (.seq (.rg [oT 98 (.mv (.v 6)),
  oT 99 (.bin .neq (.t 98) (.c (.int .i64 0))),
  oT 100 (.mv (.t 99)),
  ⟨some (.t 101),.mv (.v 9),some (.t 100,false)⟩,
  ⟨some (.t 102),.bin .neq (.t 101) (.c (.int .i64 0)),some (.t 100,false)⟩,
  oT 103 (.pick (.t 100) (.c (.bool true)) (.t 102)),
  oT 104 (.mv (.t 103)),
  ⟨some (.t 105),.mv (.v 5),some (.t 104,false)⟩,
  ⟨some (.t 106),.mv (.v 8),some (.t 104,false)⟩,
  ⟨some (.t 107),.call 13 [.t 105,.t 106],some (.t 104,false)⟩,
  ⟨some (.t 108),.un .not (.t 107),some (.t 104,false)⟩,
  oT 109 (.pick (.t 104) (.c (.bool true)) (.t 108)),
  oV 4 (.mv (.t 109))])
  (.ret)))
theorem m_one : m3 = ⟨2,[.other,.other],[(4,none,.other)],
 .seq (.rg [oV 2 (.box (.v 0)),
  oV 4 (.mv (.c (.bool false)))])
 (.seq (.seq (.rg [oT 10 (.call 9 []),
  oV 11 (.un .not (.t 10))])
  (.cond (.v 11) (.seq (.rg [oV 4 (.mv (.c (.bool false)))])
  (.ret))
  (.skip)))
  (.seq (.seq (.rg [oT 12 (.fad 7 (.v 2)),
  oT 13 (.load false 1 (.t 12)),
  oT 14 (.len false (.t 13)),
  oT 15 (.fad 14 (.v 2)),
  oT 16 (.load false 1 (.t 15)),
  oT 17 (.len false (.t 16)),
  oT 18 (.bin .add (.t 14) (.t 17)),
  oT 19 (.bin .gtr (.t 18) (.c (.int .i64 10000))),
  oT 20 (.mv (.t 19)),
  ⟨some (.t 21),.fad 2 (.v 2),some (.t 20,false)⟩,
  ⟨some (.t 22),.load false 1 (.t 21),some (.t 20,false)⟩,
  ⟨some (.t 23),.fad 3 (.v 2),some (.t 20,false)⟩,
  ⟨some (.t 24),.load false 1 (.t 23),some (.t 20,false)⟩,
  ⟨some (.t 25),.bslE 1 (.nilsl) 2 [(0,.t 22),(1,.t 24)],some (.t 20,false)⟩,
  ⟨some (.t 26),.fad 11 (.v 2),some (.t 20,false)⟩,
  ⟨some (.t 27),.load false 1 (.t 26),some (.t 20,false)⟩,
  ⟨some (.t 28),.fad 12 (.v 2),some (.t 20,false)⟩,
  ⟨some (.t 29),.load false 1 (.t 28),some (.t 20,false)⟩,
  ⟨some (.t 30),.fad 13 (.v 2),some (.t 20,false)⟩,
  ⟨some (.t 31),.load false 1 (.t 30),some (.t 20,false)⟩,
  ⟨some (.t 32),.bslE 1 (.nilsl) 3 [(0,.t 27),(1,.t 29),(2,.t 31)],some (.t 20,false)⟩,
  ⟨some (.t 33),.call 10 [.t 25,.t 32],some (.t 20,false)⟩,
  ⟨some (.t 34),.bin .gtr (.t 33) (.c (.int .i64 5000)),some (.t 20,false)⟩,
  oV 35 (.pick (.t 20) (.c (.bool true)) (.t 34))])
  (.cond (.v 35) (.seq (.rg [oV 4 (.mv (.c (.bool true)))])
  (.ret))
  (.skip)))
  (.seq (.rg [oT 37 (.load true 15 (.v 2)),
  oT 38 (.call 11 [.t 37]),
  oT 36 (.mv (.t 38)),
  oT 39 (.ext 0 (.t 36)),
  oT 40 (.ext 1 (.t 36)),
  oV 5 (.mv (.t 39)),
  oV 6 (.mv (.t 40))])
  (.seq (.rg [oT 41 (.load true 15 (.v 2)),
  oV 7 (.alloc [.int .i64 0,.int .i64 0,.nilsl,.nilsl,.int .i64 0,.int .i64 0,.int .i64 0,.nilsl,.bool false,.int .i64 0,.int .i64 0,.nilsl,.nilsl,.nilsl,.nilsl]),
  oN (.store 15 (.v 7) (.t 41))])
  (.seq one_sw one_tail))))),none⟩ := rfl
def R_o : List (Nat × Option (Bool × Nat) × PK) := [(4,none,.other)]
def one_st (cv l2 l3 : List MV) (x1 : Int) (b1 : List UInt8) (w : Int) : DS := ⟨[(7,.ptr 146 0),(6,.int .i64 x1),(5,.bs b1),(35,.bool false),(11,.bool false),(4,.bool false),(2,.ptr 2 0),(1,.int .i64 w),(0,.agg cv)],[],[(146,.cells cv),(146,.cells [.int .i64 0,.int .i64 0,.nilsl,.nilsl,.int .i64 0,.int .i64 0,.int .i64 0,.nilsl,.bool false,.int .i64 0,.int .i64 0,.nilsl,.nilsl,.nilsl,.nilsl]),(98,.el 1 l3 true),(70,.el 1 l2 true),(98,.el 1 l3 false),(70,.el 1 l2 false),(2,.cells cv)],154⟩
theorem one_big (c : Crt) (iss sub key alt per exc sig : MV) (hr : CrtR c iss sub key alt per exc sig) (hs : CrtS c) (w : Int) (hbig : 10000 < (c.key.length : Int) + c.sig.length ∨ 5000 < szS [c.issuer,c.subject] [c.alt,c.permit,c.exclude]) : Call Q 3 [crtV c iss sub key alt per exc sig,.int .i64 w] = some (.bool true) := by
 obtain ⟨serial,scheme,issuer,subject,from_,to,ks,keyb,ca,path,usage,galt,gper,gexc,sigb⟩ := c
 have fi := dir_fs hr.iss
 have fs := dir_fs hr.sub
 have fk := hr.key.fs
 have fa := hr.alt.fs
 have fp := hr.per.fs
 have fe := hr.exc.fs
 have fg := hr.sig.fs
 have lk : ∀ st,lenV false key st = some (.int .i64 keyb.length) := by have h := hr.key; simp only at h; cases h <;> exact fun _=>rfl
 have lg : ∀ st,lenV false sig st = some (.int .i64 sigb.length) := by have h := hr.sig; simp only at h; cases h <;> exact fun _=>rfl
 have bk : keyb.length ≤ 2 ^ 50 := hs.key
 have bg : sigb.length ≤ 2 ^ 50 := hs.sig
 have hsz := c_sizes3 [iss,sub] [issuer,subject] (.cons hr.iss (.cons hr.sub .nil)) (by simp) (by
  intro d hd
  simp only [List.mem_cons,List.not_mem_nil,or_false] at hd
  rcases hd with rfl | rfl
  ·exact hs.iss
  ·exact hs.sub) alt per exc galt gper gexc hr.alt hr.per hr.exc hs.alt hs.per hs.exc
 have hn := c_anchor
 simp only at hbig
 unfold crtV
 rw [Call_fn Q (m := m3) rfl rfl,m_one]
 by_cases h1 : 10000 < (keyb.length : Int) + sigb.length
 ·have h1' : decide (10000 < (keyb.length : Int) + sigb.length) = true := by simpa using h1
  apply hide; intro rhs hrhs
  simp (maxSteps := 4000000) (disch := first | omega | exact ok_of (by kernel_rfl) | decide) only [bA.u,seval,cut,if_pos,if_neg,hn,lk,lg,h1',fi.a,fs.a,fk.a,fa.a,fp.a,fe.a,fg.a]
  repeat' ((with_reducible first | refine sp ?_ ?_ | fail) <;> intro hx <;> (try simp only [bI.u] at hx) <;> (first | (exfalso; first | omega | with_reducible contradiction) | (try simp (maxSteps := 4000000) (disch := first | omega | exact ok_of (by kernel_rfl) | decide) only [bA.u,seval,cut,if_pos,if_neg,hx,hn,lk,lg,h1',fi.a,fs.a,fk.a,fa.a,fp.a,fe.a,fg.a])))
  all_goals first | (exfalso; first | omega | with_reducible contradiction) | (subst hrhs; rfl)
 ·have h1' : decide (10000 < (keyb.length : Int) + sigb.length) = false := by simpa using h1
  have h2 := hbig.resolve_left h1
  have h2' : decide (5000 < szS [issuer,subject] [galt,gper,gexc]) = true := by simpa using h2
  apply hide; intro rhs hrhs
  simp (maxSteps := 4000000) (disch := first | omega | exact ok_of (by kernel_rfl) | decide) only [bA.u,seval,cut,if_pos,if_neg,hn,lk,lg,h1',hsz,h2',fi.a,fs.a,fk.a,fa.a,fp.a,fe.a,fg.a]
  repeat' ((with_reducible first | refine sp ?_ ?_ | fail) <;> intro hx <;> (try simp only [bI.u] at hx) <;> (first | (exfalso; first | omega | with_reducible contradiction) | (try simp (maxSteps := 4000000) (disch := first | omega | exact ok_of (by kernel_rfl) | decide) only [bA.u,seval,cut,if_pos,if_neg,hx,hn,lk,lg,h1',hsz,h2',fi.a,fs.a,fk.a,fa.a,fp.a,fe.a,fg.a])))
  all_goals first | (exfalso; first | omega | with_reducible contradiction) | (subst hrhs; rfl)
theorem one_head (c : Crt) (iss sub key alt per exc sig : MV) (hr : CrtR c iss sub key alt per exc sig) (hs : CrtS c) (g1 : ¬ 10000 < (c.key.length : Int) + c.sig.length) (g2 : ¬ 5000 < szS [c.issuer,c.subject] [c.alt,c.permit,c.exclude]) (w : Int) : Call Q 3 [crtV c iss sub key alt per exc sig,.int .i64 w] = fin R_o (Run Q [.code one_sw,.code one_tail] (one_st [.int .i64 c.serial,.int .i64 c.scheme,iss,sub,.int .i64 c.from_,.int .i64 c.to,.int .i64 c.keyScheme,key,.bool c.ca,.int .i64 c.path,.int .i64 c.usage,alt,per,exc,sig] [iss,sub] [alt,per,exc] (wrS (oneS c) (wholeT c)).1 (wrS (oneS c) (wholeT c)).2 w)) := by
 have hb := crtB_of hs (by omega) (by omega)
 obtain ⟨serial,scheme,issuer,subject,from_,to,ks,keyb,ca,path,usage,galt,gper,gexc,sigb⟩ := c
 have fi := dir_fs hr.iss
 have fs := dir_fs hr.sub
 have fk := hr.key.fs
 have fa := hr.alt.fs
 have fp := hr.per.fs
 have fe := hr.exc.fs
 have fg := hr.sig.fs
 have lk : ∀ st,lenV false key st = some (.int .i64 keyb.length) := by have h := hr.key; simp only at h; cases h <;> exact fun _=>rfl
 have lg : ∀ st,lenV false sig st = some (.int .i64 sigb.length) := by have h := hr.sig; simp only at h; cases h <;> exact fun _=>rfl
 have bk : keyb.length ≤ 2 ^ 50 := hs.key
 have bg : sigb.length ≤ 2 ^ 50 := hs.sig
 have hsz := c_sizes3 [iss,sub] [issuer,subject] (.cons hr.iss (.cons hr.sub .nil)) (by simp) (by
  intro d hd
  simp only [List.mem_cons,List.not_mem_nil,or_false] at hd
  rcases hd with rfl | rfl
  ·exact hs.iss
  ·exact hs.sub) alt per exc galt gper gexc hr.alt hr.per hr.exc hs.alt hs.per hs.exc
 have hn := c_anchor
 simp only at g1 g2
 have h1' : decide (10000 < (keyb.length : Int) + sigb.length) = false := by simpa using g1
 have h2' : decide (5000 < szS [issuer,subject] [galt,gper,gexc]) = false := by simpa using g2
 have e1 := k_Encode _ iss sub key alt per exc sig hr hb
 generalize wrS (oneS ⟨serial,scheme,issuer,subject,from_,to,ks,keyb,ca,path,usage,galt,gper,gexc,sigb⟩) (wholeT ⟨serial,scheme,issuer,subject,from_,to,ks,keyb,ca,path,usage,galt,gper,gexc,sigb⟩) = o1 at *
 obtain ⟨x1,b1⟩ := o1
 unfold crtV one_st at *
 simp only at e1
 rw [Call_fn Q (m := m3) rfl rfl,m_one]
 apply hide; intro rhs hrhs
 simp (maxSteps := 4000000) (disch := first | omega | exact ok_of (by kernel_rfl) | decide) only [bA.u,seval,cut,if_pos,if_neg,hn,lk,lg,h1',hsz,h2',e1,fi.a,fs.a,fk.a,fa.a,fp.a,fe.a,fg.a]
 repeat' ((with_reducible first | refine sp ?_ ?_ | fail) <;> intro hx <;> (try simp only [bI.u] at hx) <;> (first | (exfalso; first | omega | with_reducible contradiction) | (try simp (maxSteps := 4000000) (disch := first | omega | exact ok_of (by kernel_rfl) | decide) only [bA.u,seval,cut,if_pos,if_neg,hx,hn,lk,lg,h1',hsz,h2',e1,fi.a,fs.a,fk.a,fa.a,fp.a,fe.a,fg.a])))
 all_goals first | (exfalso; first | omega | with_reducible contradiction) | (subst hrhs; rfl)
theorem one_rest (c : Crt) (iss sub key alt per exc sig : MV) (hr : CrtR c iss sub key alt per exc sig) (hb : CrtB c) (V : List (Nat × MV)) (O : List (Nat × Obj)) (nx p : Nat) (x1 : Int) (b1 : List UInt8) (hl : b1.length ≤ 65536) (hne : x1 = 0→(wrS (oneS c) (wholeT c)).1 = 0→(b1 == (wrS (oneS c) (wholeT c)).2) = false)
  (h5 : look V 5 = some (.bs b1)) (h6 : look V 6 = some (.int .i64 x1)) (h7 : look V 7 = some (.ptr p 0)) (hO : look O p = some (.cells [.int .i64 c.serial,.int .i64 c.scheme,iss,sub,.int .i64 c.from_,.int .i64 c.to,.int .i64 c.keyScheme,key,.bool c.ca,.int .i64 c.path,.int .i64 c.usage,alt,per,exc,sig])) :
  fin R_o (Run Q [.code one_tail] ⟨V,[],O,nx⟩) = some (.bool true) := by
 have e2 := k_Encode c iss sub key alt per exc sig hr hb
 have fi := dir_fs hr.iss
 have fs := dir_fs hr.sub
 have fk := hr.key.fs
 have fa := hr.alt.fs
 have fp := hr.per.fs
 have fe := hr.exc.fs
 have fg := hr.sig.fs
 generalize wrS (oneS c) (wholeT c) = o2 at *
 obtain ⟨x2,b2⟩ := o2
 have hS := c_Same b1 b2 (by omega)
 simp only at hne
 unfold crtV at e2
 by_cases z1 : x1 = 0
 ·have z1n : (x1 != 0) = false := by simpa using z1
  by_cases z2 : x2 = 0
  ·have z2n : (x2 != 0) = false := by simpa using z2
   have hbb := hne z1 z2
   apply hide; intro rhs hrhs
   simp (maxSteps := 4000000) (disch := first | omega | exact ok_of (by kernel_rfl) | decide) only [bA.u,seval,cut,if_pos,if_neg,one_tail,R_o,h5,h6,h7,hO,e2,hS,z1n,z2n,hbb,fi.a,fs.a,fk.a,fa.a,fp.a,fe.a,fg.a]
   repeat' ((with_reducible first | refine sp ?_ ?_ | fail) <;> intro hx <;> (try simp only [bI.u] at hx) <;> (first | (exfalso; first | omega | with_reducible contradiction) | (try simp (maxSteps := 4000000) (disch := first | omega | exact ok_of (by kernel_rfl) | decide) only [bA.u,seval,cut,if_pos,if_neg,hx,one_tail,R_o,h5,h6,h7,hO,e2,hS,z1n,z2n,hbb,fi.a,fs.a,fk.a,fa.a,fp.a,fe.a,fg.a])))
   all_goals first | (exfalso; first | omega | with_reducible contradiction) | (subst hrhs; rfl)
  ·have z2n : (x2 != 0) = true := by simpa using z2
   apply hide; intro rhs hrhs
   simp (maxSteps := 4000000) (disch := first | omega | exact ok_of (by kernel_rfl) | decide) only [bA.u,seval,cut,if_pos,if_neg,one_tail,R_o,h5,h6,h7,hO,e2,z1n,z2n,fi.a,fs.a,fk.a,fa.a,fp.a,fe.a,fg.a]
   repeat' ((with_reducible first | refine sp ?_ ?_ | fail) <;> intro hx <;> (try simp only [bI.u] at hx) <;> (first | (exfalso; first | omega | with_reducible contradiction) | (try simp (maxSteps := 4000000) (disch := first | omega | exact ok_of (by kernel_rfl) | decide) only [bA.u,seval,cut,if_pos,if_neg,hx,one_tail,R_o,h5,h6,h7,hO,e2,z1n,z2n,fi.a,fs.a,fk.a,fa.a,fp.a,fe.a,fg.a])))
   all_goals first | (exfalso; first | omega | with_reducible contradiction) | (subst hrhs; rfl)
 ·have z1n : (x1 != 0) = true := by simpa using z1
  apply hide; intro rhs hrhs
  simp (maxSteps := 4000000) (disch := first | omega | exact ok_of (by kernel_rfl) | decide) only [bA.u,seval,cut,if_pos,if_neg,one_tail,R_o,h5,h6,h7,hO,e2,z1n,fi.a,fs.a,fk.a,fa.a,fp.a,fe.a,fg.a]
  repeat' ((with_reducible first | refine sp ?_ ?_ | fail) <;> intro hx <;> (try simp only [bI.u] at hx) <;> (first | (exfalso; first | omega | with_reducible contradiction) | (try simp (maxSteps := 4000000) (disch := first | omega | exact ok_of (by kernel_rfl) | decide) only [bA.u,seval,cut,if_pos,if_neg,hx,one_tail,R_o,h5,h6,h7,hO,e2,z1n,fi.a,fs.a,fk.a,fa.a,fp.a,fe.a,fg.a])))
  all_goals first | (exfalso; first | omega | with_reducible contradiction) | (subst hrhs; rfl)
theorem one_0 (c : Crt) (iss sub key alt per exc sig : MV) (hr : CrtR c iss sub key alt per exc sig) (hs : CrtS c) (g1 : ¬ 10000 < (c.key.length : Int) + c.sig.length) (g2 : ¬ 5000 < szS [c.issuer,c.subject] [c.alt,c.permit,c.exclude]) : Call Q 3 [crtV c iss sub key alt per exc sig,.int .i64 0] = some (.bool true) := by
 have hb := crtB_of hs (by omega) (by omega)
 rw [one_head c iss sub key alt per exc sig hr hs g1 g2]
 obtain ⟨serial,scheme,issuer,subject,from_,to,ks,keyb,ca,path,usage,galt,gper,gexc,sigb⟩ := c
 have fi := dir_fs hr.iss
 have fs := dir_fs hr.sub
 have fk := hr.key.fs
 have fa := hr.alt.fs
 have fp := hr.per.fs
 have fe := hr.exc.fs
 have fg := hr.sig.fs
 have hw := wrS_len (oneS ⟨serial,scheme,issuer,subject,from_,to,ks,keyb,ca,path,usage,galt,gper,gexc,sigb⟩) (wholeT ⟨serial,scheme,issuer,subject,from_,to,ks,keyb,ca,path,usage,galt,gper,gexc,sigb⟩)
 have hx : IntKind.i64.wrap ((BitVec.ofInt IntKind.i64.bits serial ^^^ BitVec.ofInt IntKind.i64.bits 1).toNat : Int) = xr 1 serial := rfl
 have hr2 := fun V O nx p=>one_rest ⟨(xr 1 serial),scheme,issuer,subject,from_,to,ks,keyb,ca,path,usage,galt,gper,gexc,sigb⟩ iss sub key alt per exc sig ⟨hr.iss,hr.sub,hr.key,hr.alt,hr.per,hr.exc,hr.sig⟩ ⟨hb.iss,hb.sub,hb.key,hb.alt,hb.per,hb.exc,hb.sig,hb.ba,hb.bp,hb.be,(xr_lt _ _),hb.path⟩ V O nx p _ _ hw fun h1 h2=>one_ne (c := ⟨serial,scheme,issuer,subject,from_,to,ks,keyb,ca,path,usage,galt,gper,gexc,sigb⟩) (fun h=>xr_ne 1 serial (by decide) h.1.symm) h1 h2
 generalize wrS (oneS ⟨serial,scheme,issuer,subject,from_,to,ks,keyb,ca,path,usage,galt,gper,gexc,sigb⟩) (wholeT ⟨serial,scheme,issuer,subject,from_,to,ks,keyb,ca,path,usage,galt,gper,gexc,sigb⟩) = o1 at *
 obtain ⟨x1,b1⟩ := o1
 unfold one_st
 apply hide; intro rhs hrhs
 simp (maxSteps := 4000000) (disch := first | omega | exact ok_of (by kernel_rfl) | decide) only [bA.u,seval,cut,if_pos,if_neg,one_sw,R_o,hx,fi.a,fs.a,fk.a,fa.a,fp.a,fe.a,fg.a]
 repeat' ((with_reducible first | refine sp ?_ ?_ | fail) <;> intro hx <;> (try simp only [bI.u] at hx) <;> (first | (exfalso; first | omega | with_reducible contradiction) | (try simp (maxSteps := 4000000) (disch := first | omega | exact ok_of (by kernel_rfl) | decide) only [bA.u,seval,cut,if_pos,if_neg,hx,one_sw,R_o,hx,fi.a,fs.a,fk.a,fa.a,fp.a,fe.a,fg.a])))
 all_goals first | (exfalso; first | omega | with_reducible contradiction) | (subst hrhs; exact hr2 _ _ _ _ rfl rfl rfl rfl)
theorem one_1 (c : Crt) (iss sub key alt per exc sig : MV) (hr : CrtR c iss sub key alt per exc sig) (hs : CrtS c) (g1 : ¬ 10000 < (c.key.length : Int) + c.sig.length) (g2 : ¬ 5000 < szS [c.issuer,c.subject] [c.alt,c.permit,c.exclude]) : Call Q 3 [crtV c iss sub key alt per exc sig,.int .i64 1] = some (.bool true) := by
 have hb := crtB_of hs (by omega) (by omega)
 rw [one_head c iss sub key alt per exc sig hr hs g1 g2]
 obtain ⟨serial,scheme,issuer,subject,from_,to,ks,keyb,ca,path,usage,galt,gper,gexc,sigb⟩ := c
 have fi := dir_fs hr.iss
 have fs := dir_fs hr.sub
 have fk := hr.key.fs
 have fa := hr.alt.fs
 have fp := hr.per.fs
 have fe := hr.exc.fs
 have fg := hr.sig.fs
 have hw := wrS_len (oneS ⟨serial,scheme,issuer,subject,from_,to,ks,keyb,ca,path,usage,galt,gper,gexc,sigb⟩) (wholeT ⟨serial,scheme,issuer,subject,from_,to,ks,keyb,ca,path,usage,galt,gper,gexc,sigb⟩)
 have hx : IntKind.i64.wrap ((BitVec.ofInt IntKind.i64.bits from_ ^^^ BitVec.ofInt IntKind.i64.bits 1).toNat : Int) = xr 1 from_ := rfl
 have hr2 := fun V O nx p=>one_rest ⟨serial,scheme,issuer,subject,(xr 1 from_),to,ks,keyb,ca,path,usage,galt,gper,gexc,sigb⟩ iss sub key alt per exc sig ⟨hr.iss,hr.sub,hr.key,hr.alt,hr.per,hr.exc,hr.sig⟩ ⟨hb.iss,hb.sub,hb.key,hb.alt,hb.per,hb.exc,hb.sig,hb.ba,hb.bp,hb.be,hb.serial,hb.path⟩ V O nx p _ _ hw fun h1 h2=>one_ne (c := ⟨serial,scheme,issuer,subject,from_,to,ks,keyb,ca,path,usage,galt,gper,gexc,sigb⟩) (fun h=>xr_ne 1 from_ (by decide) h.2.1.symm) h1 h2
 generalize wrS (oneS ⟨serial,scheme,issuer,subject,from_,to,ks,keyb,ca,path,usage,galt,gper,gexc,sigb⟩) (wholeT ⟨serial,scheme,issuer,subject,from_,to,ks,keyb,ca,path,usage,galt,gper,gexc,sigb⟩) = o1 at *
 obtain ⟨x1,b1⟩ := o1
 unfold one_st
 apply hide; intro rhs hrhs
 simp (maxSteps := 4000000) (disch := first | omega | exact ok_of (by kernel_rfl) | decide) only [bA.u,seval,cut,if_pos,if_neg,one_sw,R_o,hx,fi.a,fs.a,fk.a,fa.a,fp.a,fe.a,fg.a]
 repeat' ((with_reducible first | refine sp ?_ ?_ | fail) <;> intro hx <;> (try simp only [bI.u] at hx) <;> (first | (exfalso; first | omega | with_reducible contradiction) | (try simp (maxSteps := 4000000) (disch := first | omega | exact ok_of (by kernel_rfl) | decide) only [bA.u,seval,cut,if_pos,if_neg,hx,one_sw,R_o,hx,fi.a,fs.a,fk.a,fa.a,fp.a,fe.a,fg.a])))
 all_goals first | (exfalso; first | omega | with_reducible contradiction) | (subst hrhs; exact hr2 _ _ _ _ rfl rfl rfl rfl)
theorem one_2 (c : Crt) (iss sub key alt per exc sig : MV) (hr : CrtR c iss sub key alt per exc sig) (hs : CrtS c) (g1 : ¬ 10000 < (c.key.length : Int) + c.sig.length) (g2 : ¬ 5000 < szS [c.issuer,c.subject] [c.alt,c.permit,c.exclude]) : Call Q 3 [crtV c iss sub key alt per exc sig,.int .i64 2] = some (.bool true) := by
 have hb := crtB_of hs (by omega) (by omega)
 rw [one_head c iss sub key alt per exc sig hr hs g1 g2]
 obtain ⟨serial,scheme,issuer,subject,from_,to,ks,keyb,ca,path,usage,galt,gper,gexc,sigb⟩ := c
 have fi := dir_fs hr.iss
 have fs := dir_fs hr.sub
 have fk := hr.key.fs
 have fa := hr.alt.fs
 have fp := hr.per.fs
 have fe := hr.exc.fs
 have fg := hr.sig.fs
 have hw := wrS_len (oneS ⟨serial,scheme,issuer,subject,from_,to,ks,keyb,ca,path,usage,galt,gper,gexc,sigb⟩) (wholeT ⟨serial,scheme,issuer,subject,from_,to,ks,keyb,ca,path,usage,galt,gper,gexc,sigb⟩)
 have hx : IntKind.i64.wrap ((BitVec.ofInt IntKind.i64.bits to ^^^ BitVec.ofInt IntKind.i64.bits 1).toNat : Int) = xr 1 to := rfl
 have hr2 := fun V O nx p=>one_rest ⟨serial,scheme,issuer,subject,from_,(xr 1 to),ks,keyb,ca,path,usage,galt,gper,gexc,sigb⟩ iss sub key alt per exc sig ⟨hr.iss,hr.sub,hr.key,hr.alt,hr.per,hr.exc,hr.sig⟩ ⟨hb.iss,hb.sub,hb.key,hb.alt,hb.per,hb.exc,hb.sig,hb.ba,hb.bp,hb.be,hb.serial,hb.path⟩ V O nx p _ _ hw fun h1 h2=>one_ne (c := ⟨serial,scheme,issuer,subject,from_,to,ks,keyb,ca,path,usage,galt,gper,gexc,sigb⟩) (fun h=>xr_ne 1 to (by decide) h.2.2.1.symm) h1 h2
 generalize wrS (oneS ⟨serial,scheme,issuer,subject,from_,to,ks,keyb,ca,path,usage,galt,gper,gexc,sigb⟩) (wholeT ⟨serial,scheme,issuer,subject,from_,to,ks,keyb,ca,path,usage,galt,gper,gexc,sigb⟩) = o1 at *
 obtain ⟨x1,b1⟩ := o1
 unfold one_st
 apply hide; intro rhs hrhs
 simp (maxSteps := 4000000) (disch := first | omega | exact ok_of (by kernel_rfl) | decide) only [bA.u,seval,cut,if_pos,if_neg,one_sw,R_o,hx,fi.a,fs.a,fk.a,fa.a,fp.a,fe.a,fg.a]
 repeat' ((with_reducible first | refine sp ?_ ?_ | fail) <;> intro hx <;> (try simp only [bI.u] at hx) <;> (first | (exfalso; first | omega | with_reducible contradiction) | (try simp (maxSteps := 4000000) (disch := first | omega | exact ok_of (by kernel_rfl) | decide) only [bA.u,seval,cut,if_pos,if_neg,hx,one_sw,R_o,hx,fi.a,fs.a,fk.a,fa.a,fp.a,fe.a,fg.a])))
 all_goals first | (exfalso; first | omega | with_reducible contradiction) | (subst hrhs; exact hr2 _ _ _ _ rfl rfl rfl rfl)
theorem one_3 (c : Crt) (iss sub key alt per exc sig : MV) (hr : CrtR c iss sub key alt per exc sig) (hs : CrtS c) (g1 : ¬ 10000 < (c.key.length : Int) + c.sig.length) (g2 : ¬ 5000 < szS [c.issuer,c.subject] [c.alt,c.permit,c.exclude]) : Call Q 3 [crtV c iss sub key alt per exc sig,.int .i64 3] = some (.bool true) := by
 have hb := crtB_of hs (by omega) (by omega)
 rw [one_head c iss sub key alt per exc sig hr hs g1 g2]
 obtain ⟨serial,scheme,issuer,subject,from_,to,ks,keyb,ca,path,usage,galt,gper,gexc,sigb⟩ := c
 have fi := dir_fs hr.iss
 have fs := dir_fs hr.sub
 have fk := hr.key.fs
 have fa := hr.alt.fs
 have fp := hr.per.fs
 have fe := hr.exc.fs
 have fg := hr.sig.fs
 have hw := wrS_len (oneS ⟨serial,scheme,issuer,subject,from_,to,ks,keyb,ca,path,usage,galt,gper,gexc,sigb⟩) (wholeT ⟨serial,scheme,issuer,subject,from_,to,ks,keyb,ca,path,usage,galt,gper,gexc,sigb⟩)
 have hx : IntKind.i64.wrap ((BitVec.ofInt IntKind.i64.bits usage ^^^ BitVec.ofInt IntKind.i64.bits 256).toNat : Int) = xr 256 usage := rfl
 have hr2 := fun V O nx p=>one_rest ⟨serial,scheme,issuer,subject,from_,to,ks,keyb,ca,path,(xr 256 usage),galt,gper,gexc,sigb⟩ iss sub key alt per exc sig ⟨hr.iss,hr.sub,hr.key,hr.alt,hr.per,hr.exc,hr.sig⟩ ⟨hb.iss,hb.sub,hb.key,hb.alt,hb.per,hb.exc,hb.sig,hb.ba,hb.bp,hb.be,hb.serial,hb.path⟩ V O nx p _ _ hw fun h1 h2=>one_ne (c := ⟨serial,scheme,issuer,subject,from_,to,ks,keyb,ca,path,usage,galt,gper,gexc,sigb⟩) (fun h=>xr_ne 256 usage (by decide) h.2.2.2.1.symm) h1 h2
 generalize wrS (oneS ⟨serial,scheme,issuer,subject,from_,to,ks,keyb,ca,path,usage,galt,gper,gexc,sigb⟩) (wholeT ⟨serial,scheme,issuer,subject,from_,to,ks,keyb,ca,path,usage,galt,gper,gexc,sigb⟩) = o1 at *
 obtain ⟨x1,b1⟩ := o1
 unfold one_st
 apply hide; intro rhs hrhs
 simp (maxSteps := 4000000) (disch := first | omega | exact ok_of (by kernel_rfl) | decide) only [bA.u,seval,cut,if_pos,if_neg,one_sw,R_o,hx,fi.a,fs.a,fk.a,fa.a,fp.a,fe.a,fg.a]
 repeat' ((with_reducible first | refine sp ?_ ?_ | fail) <;> intro hx <;> (try simp only [bI.u] at hx) <;> (first | (exfalso; first | omega | with_reducible contradiction) | (try simp (maxSteps := 4000000) (disch := first | omega | exact ok_of (by kernel_rfl) | decide) only [bA.u,seval,cut,if_pos,if_neg,hx,one_sw,R_o,hx,fi.a,fs.a,fk.a,fa.a,fp.a,fe.a,fg.a])))
 all_goals first | (exfalso; first | omega | with_reducible contradiction) | (subst hrhs; exact hr2 _ _ _ _ rfl rfl rfl rfl)
theorem one_4 (c : Crt) (iss sub key alt per exc sig : MV) (hr : CrtR c iss sub key alt per exc sig) (hs : CrtS c) (g1 : ¬ 10000 < (c.key.length : Int) + c.sig.length) (g2 : ¬ 5000 < szS [c.issuer,c.subject] [c.alt,c.permit,c.exclude]) : Call Q 3 [crtV c iss sub key alt per exc sig,.int .i64 4] = some (.bool true) := by
 have hb := crtB_of hs (by omega) (by omega)
 rw [one_head c iss sub key alt per exc sig hr hs g1 g2]
 obtain ⟨serial,scheme,issuer,subject,from_,to,ks,keyb,ca,path,usage,galt,gper,gexc,sigb⟩ := c
 have fi := dir_fs hr.iss
 have fs := dir_fs hr.sub
 have fk := hr.key.fs
 have fa := hr.alt.fs
 have fp := hr.per.fs
 have fe := hr.exc.fs
 have fg := hr.sig.fs
 have hw := wrS_len (oneS ⟨serial,scheme,issuer,subject,from_,to,ks,keyb,ca,path,usage,galt,gper,gexc,sigb⟩) (wholeT ⟨serial,scheme,issuer,subject,from_,to,ks,keyb,ca,path,usage,galt,gper,gexc,sigb⟩)
 simp only at g1
 have hj : Call Q 12 [key,.bs [0]] = some (.bs (keyb ++ [0])) := c_Join0 key keyb hr.key (by have := hb.key; simp only at this; omega)
 have hr2 := fun V O nx p=>one_rest ⟨serial,scheme,issuer,subject,from_,to,ks,(keyb ++ [0]),ca,path,usage,galt,gper,gexc,sigb⟩ iss sub (.bs (keyb ++ [0])) alt per exc sig ⟨hr.iss,hr.sub,.bs _,hr.alt,hr.per,hr.exc,hr.sig⟩ ⟨hb.iss,hb.sub,(by simp; omega),hb.alt,hb.per,hb.exc,hb.sig,hb.ba,hb.bp,hb.be,hb.serial,hb.path⟩ V O nx p _ _ hw fun h1 h2=>one_ne (c := ⟨serial,scheme,issuer,subject,from_,to,ks,keyb,ca,path,usage,galt,gper,gexc,sigb⟩) (fun h=>by have := congrArg List.length h.2.2.2.2.1; simp at this) h1 h2
 generalize wrS (oneS ⟨serial,scheme,issuer,subject,from_,to,ks,keyb,ca,path,usage,galt,gper,gexc,sigb⟩) (wholeT ⟨serial,scheme,issuer,subject,from_,to,ks,keyb,ca,path,usage,galt,gper,gexc,sigb⟩) = o1 at *
 obtain ⟨x1,b1⟩ := o1
 unfold one_st
 apply hide; intro rhs hrhs
 simp (maxSteps := 4000000) (disch := first | omega | exact ok_of (by kernel_rfl) | decide) only [bA.u,seval,cut,if_pos,if_neg,one_sw,R_o,hj,fi.a,fs.a,fk.a,fa.a,fp.a,fe.a,fg.a]
 repeat' ((with_reducible first | refine sp ?_ ?_ | fail) <;> intro hx <;> (try simp only [bI.u] at hx) <;> (first | (exfalso; first | omega | with_reducible contradiction) | (try simp (maxSteps := 4000000) (disch := first | omega | exact ok_of (by kernel_rfl) | decide) only [bA.u,seval,cut,if_pos,if_neg,hx,one_sw,R_o,hj,fi.a,fs.a,fk.a,fa.a,fp.a,fe.a,fg.a])))
 all_goals first | (exfalso; first | omega | with_reducible contradiction) | (subst hrhs; exact hr2 _ _ _ _ rfl rfl rfl rfl)
theorem one_5 (c : Crt) (iss sub key alt per exc sig : MV) (hr : CrtR c iss sub key alt per exc sig) (hs : CrtS c) (g1 : ¬ 10000 < (c.key.length : Int) + c.sig.length) (g2 : ¬ 5000 < szS [c.issuer,c.subject] [c.alt,c.permit,c.exclude]) : Call Q 3 [crtV c iss sub key alt per exc sig,.int .i64 5] = some (.bool true) := by
 have hb := crtB_of hs (by omega) (by omega)
 rw [one_head c iss sub key alt per exc sig hr hs g1 g2]
 obtain ⟨serial,scheme,issuer,subject,from_,to,ks,keyb,ca,path,usage,galt,gper,gexc,sigb⟩ := c
 have fi := dir_fs hr.iss
 have fs := dir_fs hr.sub
 have fk := hr.key.fs
 have fa := hr.alt.fs
 have fp := hr.per.fs
 have fe := hr.exc.fs
 have fg := hr.sig.fs
 have hw := wrS_len (oneS ⟨serial,scheme,issuer,subject,from_,to,ks,keyb,ca,path,usage,galt,gper,gexc,sigb⟩) (wholeT ⟨serial,scheme,issuer,subject,from_,to,ks,keyb,ca,path,usage,galt,gper,gexc,sigb⟩)
 simp only at g1
 have hj : Call Q 12 [sig,.bs [0]] = some (.bs (sigb ++ [0])) := c_Join0 sig sigb hr.sig (by have := hb.sig; simp only at this; omega)
 have hr2 := fun V O nx p=>one_rest ⟨serial,scheme,issuer,subject,from_,to,ks,keyb,ca,path,usage,galt,gper,gexc,(sigb ++ [0])⟩ iss sub key alt per exc (.bs (sigb ++ [0])) ⟨hr.iss,hr.sub,hr.key,hr.alt,hr.per,hr.exc,.bs _⟩ ⟨hb.iss,hb.sub,hb.key,hb.alt,hb.per,hb.exc,(by simp; omega),hb.ba,hb.bp,hb.be,hb.serial,hb.path⟩ V O nx p _ _ hw fun h1 h2=>one_ne (c := ⟨serial,scheme,issuer,subject,from_,to,ks,keyb,ca,path,usage,galt,gper,gexc,sigb⟩) (fun h=>by have := congrArg List.length h.2.2.2.2.2.1; simp at this) h1 h2
 generalize wrS (oneS ⟨serial,scheme,issuer,subject,from_,to,ks,keyb,ca,path,usage,galt,gper,gexc,sigb⟩) (wholeT ⟨serial,scheme,issuer,subject,from_,to,ks,keyb,ca,path,usage,galt,gper,gexc,sigb⟩) = o1 at *
 obtain ⟨x1,b1⟩ := o1
 unfold one_st
 apply hide; intro rhs hrhs
 simp (maxSteps := 4000000) (disch := first | omega | exact ok_of (by kernel_rfl) | decide) only [bA.u,seval,cut,if_pos,if_neg,one_sw,R_o,hj,fi.a,fs.a,fk.a,fa.a,fp.a,fe.a,fg.a]
 repeat' ((with_reducible first | refine sp ?_ ?_ | fail) <;> intro hx <;> (try simp only [bI.u] at hx) <;> (first | (exfalso; first | omega | with_reducible contradiction) | (try simp (maxSteps := 4000000) (disch := first | omega | exact ok_of (by kernel_rfl) | decide) only [bA.u,seval,cut,if_pos,if_neg,hx,one_sw,R_o,hj,fi.a,fs.a,fk.a,fa.a,fp.a,fe.a,fg.a])))
 all_goals first | (exfalso; first | omega | with_reducible contradiction) | (subst hrhs; exact hr2 _ _ _ _ rfl rfl rfl rfl)
theorem one_6 (c : Crt) (iss sub key alt per exc sig : MV) (hr : CrtR c iss sub key alt per exc sig) (hs : CrtS c) (g1 : ¬ 10000 < (c.key.length : Int) + c.sig.length) (g2 : ¬ 5000 < szS [c.issuer,c.subject] [c.alt,c.permit,c.exclude]) : Call Q 3 [crtV c iss sub key alt per exc sig,.int .i64 6] = some (.bool true) := by
 have hb := crtB_of hs (by omega) (by omega)
 rw [one_head c iss sub key alt per exc sig hr hs g1 g2]
 obtain ⟨serial,scheme,issuer,subject,from_,to,ks,keyb,ca,path,usage,galt,gper,gexc,sigb⟩ := c
 have fi := dir_fs hr.iss
 have fs := dir_fs hr.sub
 have fk := hr.key.fs
 have fa := hr.alt.fs
 have fp := hr.per.fs
 have fe := hr.exc.fs
 have fg := hr.sig.fs
 have hw := wrS_len (oneS ⟨serial,scheme,issuer,subject,from_,to,ks,keyb,ca,path,usage,galt,gper,gexc,sigb⟩) (wholeT ⟨serial,scheme,issuer,subject,from_,to,ks,keyb,ca,path,usage,galt,gper,gexc,sigb⟩)
 have hr2 := fun V O nx p=>one_rest ⟨serial,scheme,issuer,subject,from_,to,ks,keyb,(!ca),path,usage,galt,gper,gexc,sigb⟩ iss sub key alt per exc sig ⟨hr.iss,hr.sub,hr.key,hr.alt,hr.per,hr.exc,hr.sig⟩ ⟨hb.iss,hb.sub,hb.key,hb.alt,hb.per,hb.exc,hb.sig,hb.ba,hb.bp,hb.be,hb.serial,hb.path⟩ V O nx p _ _ hw fun h1 h2=>one_ne (c := ⟨serial,scheme,issuer,subject,from_,to,ks,keyb,ca,path,usage,galt,gper,gexc,sigb⟩) (fun h=>by have := h.2.2.2.2.2.2.1; cases ca <;> cases this) h1 h2
 generalize wrS (oneS ⟨serial,scheme,issuer,subject,from_,to,ks,keyb,ca,path,usage,galt,gper,gexc,sigb⟩) (wholeT ⟨serial,scheme,issuer,subject,from_,to,ks,keyb,ca,path,usage,galt,gper,gexc,sigb⟩) = o1 at *
 obtain ⟨x1,b1⟩ := o1
 unfold one_st
 apply hide; intro rhs hrhs
 simp (maxSteps := 4000000) (disch := first | omega | exact ok_of (by kernel_rfl) | decide) only [bA.u,seval,cut,if_pos,if_neg,one_sw,R_o,fi.a,fs.a,fk.a,fa.a,fp.a,fe.a,fg.a]
 repeat' ((with_reducible first | refine sp ?_ ?_ | fail) <;> intro hx <;> (try simp only [bI.u] at hx) <;> (first | (exfalso; first | omega | with_reducible contradiction) | (try simp (maxSteps := 4000000) (disch := first | omega | exact ok_of (by kernel_rfl) | decide) only [bA.u,seval,cut,if_pos,if_neg,hx,one_sw,R_o,fi.a,fs.a,fk.a,fa.a,fp.a,fe.a,fg.a])))
 all_goals first | (exfalso; first | omega | with_reducible contradiction) | (subst hrhs; exact hr2 _ _ _ _ rfl rfl rfl rfl)
theorem one_7 (c : Crt) (iss sub key alt per exc sig : MV) (hr : CrtR c iss sub key alt per exc sig) (hs : CrtS c) (g1 : ¬ 10000 < (c.key.length : Int) + c.sig.length) (g2 : ¬ 5000 < szS [c.issuer,c.subject] [c.alt,c.permit,c.exclude]) : Call Q 3 [crtV c iss sub key alt per exc sig,.int .i64 7] = some (.bool true) := by
 have hb := crtB_of hs (by omega) (by omega)
 rw [one_head c iss sub key alt per exc sig hr hs g1 g2]
 obtain ⟨serial,scheme,issuer,subject,from_,to,ks,keyb,ca,path,usage,galt,gper,gexc,sigb⟩ := c
 have fi := dir_fs hr.iss
 have fs := dir_fs hr.sub
 have fk := hr.key.fs
 have fa := hr.alt.fs
 have fp := hr.per.fs
 have fe := hr.exc.fs
 have fg := hr.sig.fs
 have hw := wrS_len (oneS ⟨serial,scheme,issuer,subject,from_,to,ks,keyb,ca,path,usage,galt,gper,gexc,sigb⟩) (wholeT ⟨serial,scheme,issuer,subject,from_,to,ks,keyb,ca,path,usage,galt,gper,gexc,sigb⟩)
 have hx : IntKind.i64.wrap ((BitVec.ofInt IntKind.i64.bits path ^^^ BitVec.ofInt IntKind.i64.bits 1).toNat : Int) = xr 1 path := rfl
 have hr2 := fun V O nx p=>one_rest ⟨serial,scheme,issuer,subject,from_,to,ks,keyb,ca,(xr 1 path),usage,galt,gper,gexc,sigb⟩ iss sub key alt per exc sig ⟨hr.iss,hr.sub,hr.key,hr.alt,hr.per,hr.exc,hr.sig⟩ ⟨hb.iss,hb.sub,hb.key,hb.alt,hb.per,hb.exc,hb.sig,hb.ba,hb.bp,hb.be,hb.serial,(xr_lt _ _)⟩ V O nx p _ _ hw fun h1 h2=>one_ne (c := ⟨serial,scheme,issuer,subject,from_,to,ks,keyb,ca,path,usage,galt,gper,gexc,sigb⟩) (fun h=>xr_ne 1 path (by decide) h.2.2.2.2.2.2.2.symm) h1 h2
 generalize wrS (oneS ⟨serial,scheme,issuer,subject,from_,to,ks,keyb,ca,path,usage,galt,gper,gexc,sigb⟩) (wholeT ⟨serial,scheme,issuer,subject,from_,to,ks,keyb,ca,path,usage,galt,gper,gexc,sigb⟩) = o1 at *
 obtain ⟨x1,b1⟩ := o1
 unfold one_st
 apply hide; intro rhs hrhs
 simp (maxSteps := 4000000) (disch := first | omega | exact ok_of (by kernel_rfl) | decide) only [bA.u,seval,cut,if_pos,if_neg,one_sw,R_o,hx,fi.a,fs.a,fk.a,fa.a,fp.a,fe.a,fg.a]
 repeat' ((with_reducible first | refine sp ?_ ?_ | fail) <;> intro hx <;> (try simp only [bI.u] at hx) <;> (first | (exfalso; first | omega | with_reducible contradiction) | (try simp (maxSteps := 4000000) (disch := first | omega | exact ok_of (by kernel_rfl) | decide) only [bA.u,seval,cut,if_pos,if_neg,hx,one_sw,R_o,hx,fi.a,fs.a,fk.a,fa.a,fp.a,fe.a,fg.a])))
 all_goals first | (exfalso; first | omega | with_reducible contradiction) | (subst hrhs; exact hr2 _ _ _ _ rfl rfl rfl rfl)
theorem one_other (c : Crt) (iss sub key alt per exc sig : MV) (hr : CrtR c iss sub key alt per exc sig) (hs : CrtS c) (g1 : ¬ 10000 < (c.key.length : Int) + c.sig.length) (g2 : ¬ 5000 < szS [c.issuer,c.subject] [c.alt,c.permit,c.exclude]) (w : Int) (hw : w < 0 ∨ 7 < w) : Call Q 3 [crtV c iss sub key alt per exc sig,.int .i64 w] = some (.bool true) := by
 rw [one_head c iss sub key alt per exc sig hr hs g1 g2]
 have fi := dir_fs hr.iss
 have fs := dir_fs hr.sub
 have fk := hr.key.fs
 have fa := hr.alt.fs
 have fp := hr.per.fs
 have fe := hr.exc.fs
 have fg := hr.sig.fs
 have w0 : (w == 0) = false := by rw [beq_eq_false_iff_ne]; omega
 have w1 : (w == 1) = false := by rw [beq_eq_false_iff_ne]; omega
 have w2 : (w == 2) = false := by rw [beq_eq_false_iff_ne]; omega
 have w3 : (w == 3) = false := by rw [beq_eq_false_iff_ne]; omega
 have w4 : (w == 4) = false := by rw [beq_eq_false_iff_ne]; omega
 have w5 : (w == 5) = false := by rw [beq_eq_false_iff_ne]; omega
 have w6 : (w == 6) = false := by rw [beq_eq_false_iff_ne]; omega
 have w7 : (w == 7) = false := by rw [beq_eq_false_iff_ne]; omega
 unfold one_st
 apply hide; intro rhs hrhs
 simp (maxSteps := 4000000) (disch := first | omega | exact ok_of (by kernel_rfl) | decide) only [bA.u,seval,cut,if_pos,if_neg,one_sw,R_o,w0,w1,w2,w3,w4,w5,w6,w7,fi.a,fs.a,fk.a,fa.a,fp.a,fe.a,fg.a]
 repeat' ((with_reducible first | refine sp ?_ ?_ | fail) <;> intro hx <;> (try simp only [bI.u] at hx) <;> (first | (exfalso; first | omega | with_reducible contradiction) | (try simp (maxSteps := 4000000) (disch := first | omega | exact ok_of (by kernel_rfl) | decide) only [bA.u,seval,cut,if_pos,if_neg,hx,one_sw,R_o,w0,w1,w2,w3,w4,w5,w6,w7,fi.a,fs.a,fk.a,fa.a,fp.a,fe.a,fg.a])))
 all_goals first | (exfalso; first | omega | with_reducible contradiction) | (subst hrhs; rfl)
theorem c_CertOne (c : Crt) (iss sub key alt per exc sig : MV) (hr : CrtR c iss sub key alt per exc sig) (hs : CrtS c) (w : Int) : Call Q 3 [crtV c iss sub key alt per exc sig,.int .i64 w] = some (.bool true) := by
 by_cases g1 : 10000 < (c.key.length : Int) + c.sig.length
 ·exact one_big c iss sub key alt per exc sig hr hs w (.inl g1)
 by_cases g2 : 5000 < szS [c.issuer,c.subject] [c.alt,c.permit,c.exclude]
 ·exact one_big c iss sub key alt per exc sig hr hs w (.inr g2)
 by_cases hw : w < 0 ∨ 7 < w
 ·exact one_other c iss sub key alt per exc sig hr hs g1 g2 w hw
 have hc : w = 0 ∨ w = 1 ∨ w = 2 ∨ w = 3 ∨ w = 4 ∨ w = 5 ∨ w = 6 ∨ w = 7 := by omega
 rcases hc with rfl | rfl | rfl | rfl | rfl | rfl | rfl | rfl
 ·exact one_0 c iss sub key alt per exc sig hr hs g1 g2
 ·exact one_1 c iss sub key alt per exc sig hr hs g1 g2
 ·exact one_2 c iss sub key alt per exc sig hr hs g1 g2
 ·exact one_3 c iss sub key alt per exc sig hr hs g1 g2
 ·exact one_4 c iss sub key alt per exc sig hr hs g1 g2
 ·exact one_5 c iss sub key alt per exc sig hr hs g1 g2
 ·exact one_6 c iss sub key alt per exc sig hr hs g1 g2
 ·exact one_7 c iss sub key alt per exc sig hr hs g1 g2
end Go.Mini
