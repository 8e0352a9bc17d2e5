/- A part of TopTwice; no condition. -/
import Derived.Test.YtkgmipfmphlpgaaGreatK38
open Go Go.RowKit Go.Proofs
set_option linter.all false
set_option maxRecDepth 100000
set_option maxHeartbeats 20000000
namespace Hk
attribute [-go_sem] Qm
theorem Qbg (ρ:Operand→Value)(op:Oper)(x:Operand)(b o:Nat)(c0:Value)(ho:op.op=.load 58 x)(hx:ρ x=.pointer (some ⟨b,o,none⟩))(w:World)(h0:w.cell? ⟨b,o,none⟩=some c0) :
 (execOp ρ op).run Tryz.prog w=.ok (.value (c0)) w:=by
 obtain⟨dst,op,type,pos,after,guard⟩:=op;simp only at ho;subst ho
 go_simp
theorem Q3h {op:Oper}{a:Act}{C:World→Prop}{K:Act→Prop}{x:Operand}{b o:Nat}{c0:Value}(ho:op.op=.load 58 x)(hx:a.eval x=.pointer (some ⟨b,o,none⟩))
 (h:∀ w,C w→w.cell? ⟨b,o,none⟩=some c0) (hk:K (a.put op.dst (c0))):op.quiet Tryz.prog a C K :=
 Qt (v:=c0) (fun w hC=>by unfold Oper.quietAt;have h0:=h w hC;rw[Qbg _ op x b o c0 ho hx w h0];exact⟨rfl,rfl⟩) hk
def Qra (n:Nat)(c:Nat×Nat):Value:=match c.1 with
 | 0=>.slice none 0 0
 | b+1=>.slice (some ⟨b,0,none⟩) n c.2
theorem Qj2 {w:World}{B e k n:Nat}{v:Value}{xs:List Value}(h:w.ownsRow B e k v n xs):∃ c,v=Qra n c:=by
 rcases h.2 with ⟨hv,_⟩|⟨g,cap,cur,hv,_⟩
 · exact⟨(0,0),hv⟩
 · exact⟨(g+1,cap),hv⟩
theorem Qfq {w:World}{B e:Nat}{v:Value}{ws:List Wy}{ρ:Nat→Nat}(h:w.ownsRow B e 590 v ws.length (Q1p ws))(hr:∀ b,v.ownBlock=some b→ρ b=0):Q1w w ρ v ws:=by
 rcases Nat.eq_zero_or_pos ws.length with h0|h0
 · rcases h.2 with ⟨hv,_⟩|⟨g,cap,cur,hv,_,_,hc,hm,_⟩
   · exact⟨none,0,by rw[hv,h0],Y1,Y0,fun i hi=>Y1,fun h=>Y1⟩
   · exact⟨some ⟨g,0,none⟩,cap,hv,hc,hm,fun i hi=>Y1,fun h=>Y1⟩
 · obtain⟨g,cap,hv,hB,hg,hn,hm,hc,hf⟩:=Q1h h h0
   exact⟨some ⟨g,0,none⟩,cap,hv,hn,hm,fun i hi=>⟨g,0,rfl,fun j hj=>by rw[Nat.zero_add];exact hc _ _ (Q4j ws i hi j hj)⟩,fun _ a ha=>by rw[← Option.some.inj ha];exact hr g (by rw[hv];rfl)⟩
theorem Q3r {w:World}{yb n:Nat}{s:St}(h:blk w yb=Q2n n s):w.cell? ⟨yb,0,none⟩=some (.int .i64 (n:Nat))∧∀ j,j<589→w.cell? ⟨yb,1+j,none⟩=some (s.cell j):=by
 refine⟨by rw[Q1b,h];exact Qap _ _,fun j hj=>?_⟩;rw[Q1b,h];unfold Q2n;rw[Qj,if_pos Y1];unfold Q7q;rw[if_neg Y1,show 1+j-1=j from Y1]
def Q18a (yb g jb mb at_ ln jc m B:Nat)(f:Nat→Value)(b:Bool)(s:St)(ss:List St)(pk:Option Addr)(ck:Nat)(w:World)(w':World):Prop:=w'.cell? ⟨yb,0,none⟩=some (.int .i64 (at_:Nat))∧w'.cell? ⟨g,3,none⟩=some (.slice (some ⟨jb,0,none⟩) ln jc)∧w'.cell? ⟨g,4,none⟩=some (.map (some mb))∧w'.cell? ⟨jb,at_,none⟩=some (.bool b)∧Q5d w' mb (.slice none 0 0) m f∧w'.ownsRow B 90 589 (.slice pk ss.length ck) ss.length (Q1q ss)∧blk w' yb=Q2n at_ s∧Below w.heap.size w w'
theorem Qnq {yb g jb mb at_ ln jc m B:Nat}{f:Nat→Value}{b:Bool}{s:St}{ss:List St}{pk:Option Addr}{ck:Nat}{w:World}:KC (Q18a yb g jb mb at_ ln jc m B f b s ss pk ck w):=by
 intro w' w1 h hb;obtain⟨k0,k1,k2,k3,k4,k5,k6,k7⟩:=h;exact⟨Q0 hb k0,Q0 hb k1,Q0 hb k2,Q0 hb k3,(k4).keep hb,Qd k5 hb,Q12 hb k6 Y18,Q8 k7 hb⟩
def Q16j (yb g at_:Nat)(n6 c6 v7:Int)(W:World)(d:Nat→Bool)(ν:Nat→Nat×Nat)(w':World):Prop:=w'.cell? ⟨yb,0,none⟩=some (.int .i64 (at_:Nat))∧w'.cell? ⟨g,6,none⟩=some (.int .i64 (bif d 7 then n6 else c6))∧w'.cell? ⟨g,7,none⟩=some (.int .i64 (bif d 11 then (at_:Int) else v7))∧(∀ i,w'.frozen? ⟨g,i,none⟩=false)∧(∀ j,j<10→j≠6→j≠7→w'.cell? ⟨g,j,none⟩=W.cell? ⟨g,j,none⟩)∧Fr2 g none W w'
theorem Qnp {yb g at_:Nat}{n6 c6 v7:Int}{W:World}:KT (Q16j yb g at_ n6 c6 v7 W):=by
 exact Ymd
theorem Qno {yb g at_:Nat}{n6 c6 v7:Int}{W:World}:MT (Q16j yb g at_ n6 c6 v7 W) [7,11]:=by
 intro d d' ν w' hd h;unfold Q16j at *;simpa only[← hd 7 Y3,← hd 11 Y3] using h
def Q16i (yb g at_:Nat)(n6 c6 v7:Int)(W:World)(d:Nat→Bool)(ν:Nat→Nat×Nat)(w':World):Prop:=w'.cell? ⟨yb,0,none⟩=some (.int .i64 (at_:Nat))∧w'.cell? ⟨g,6,none⟩=some (.int .i64 (bif d 8 then n6 else c6))∧w'.cell? ⟨g,7,none⟩=some (.int .i64 (bif d 12 then (at_:Int) else v7))∧(∀ i,w'.frozen? ⟨g,i,none⟩=false)∧(∀ j,j<10→j≠6→j≠7→w'.cell? ⟨g,j,none⟩=W.cell? ⟨g,j,none⟩)∧Fr2 g none W w'
theorem Qnn {yb g at_:Nat}{n6 c6 v7:Int}{W:World}:KT (Q16i yb g at_ n6 c6 v7 W):=by
 exact Ymd
theorem Qnm {yb g at_:Nat}{n6 c6 v7:Int}{W:World}:MT (Q16i yb g at_ n6 c6 v7 W) [8,12]:=by
 intro d d' ν w' hd h;unfold Q16i at *;simpa only[← hd 8 Y3,← hd 12 Y3] using h
def Q124 (yb g lb lc dc at_ n:Nat)(p:Option Addr)(l:List In)(ds:List Df)(ctx:Int)(s:St)(ws:List Wy)(U:World)(d:Nat→Bool)(ν:Nat→Nat×Nat)(w':World):Prop:=w'.cell? ⟨yb,0,none⟩=some (.int .i64 (at_:Nat))∧(∀ j,j<589→w'.cell? ⟨yb,1+j,none⟩=some (s.cell j))∧w'.cell? ⟨g,0,none⟩=some (.slice (some ⟨lb,0,none⟩) l.length lc)∧w'.cell? ⟨g,1,none⟩=some (.slice p ds.length dc)∧w'.cell? ⟨g,2,none⟩=some (.int .i64 ctx)∧Q14 w' lb l∧Q1s w' p ds∧(d 12=true→w'.ownsRow U.heap.size 93 590 (Qra n (ν 12)) n (Q1p ws))∧Below U.heap.size U w'
theorem Qaj {yb g lb lc dc at_ n:Nat}{p:Option Addr}{l:List In}{ds:List Df}{ctx:Int}{s:St}{ws:List Wy}{U:World}:KT (Q124 yb g lb lc dc at_ n p l ds ctx s ws U):=by
 intro d ν w' w1 h hb;obtain⟨k0,k1,k2,k3,k4,k5,k6,k7,k8⟩:=h;exact⟨Q0 hb k0,fun j hj=>Q0 hb (k1 j hj),Q0 hb k2,Q0 hb k3,Q0 hb k4,k5.keep hb,k6.keep hb,fun h=>Qd (k7 h) hb,Q8 k8 hb⟩
theorem Qnl {yb g lb lc dc at_ n:Nat}{p:Option Addr}{l:List In}{ds:List Df}{ctx:Int}{s:St}{ws:List Wy}{U:World}:MT (Q124 yb g lb lc dc at_ n p l ds ctx s ws U) [12]:=by
 intro d d' ν w' hd h;unfold Q124 at *;simpa only[← hd 12 Y3] using h
theorem Quk {yb g lb lc dc at_ n:Nat}{p:Option Addr}{l:List In}{ds:List Df}{ctx:Int}{s:St}{ws:List Wy}{U:World}:NT (Q124 yb g lb lc dc at_ n p l ds ctx s ws U) [12]:=by
 intro i hi d ν c w' hd h;unfold Q124 at *;exact Ypy
def Q123 (yb g at_ B nf nw cf:Nat)(pf:Option Addr)(s:St)(ws:List Wy)(lv:Value)(xs:List Value)(W:World)(d:Nat→Bool)(ν:Nat→Nat×Nat)(w':World):Prop:=w'.cell? ⟨yb,0,none⟩=some (.int .i64 (at_:Nat))∧(∀ j,j<589→w'.cell? ⟨yb,1+j,none⟩=some (s.cell j))∧(d 15=false→w'.cell? ⟨g,5,none⟩=some (.slice pf nf cf))∧(∀ i,w'.frozen? ⟨g,i,none⟩=false)∧(∀ j,j<10→j≠5→w'.cell? ⟨g,j,none⟩=W.cell? ⟨g,j,none⟩)∧(d 11=true→blk w' (ν 11).1=frC ⟨at_,s,ws⟩ lv)∧(d 11=true→W.heap.size≤(ν 11).1)∧(d 12=false→w'.ownsRow B 97 591 (.slice pf nf cf) nf xs)∧(d 12=true→w'.ownsRow B 97 591 (.slice (some ⟨(ν 12).1,0,none⟩) (nf+1) (ν 12).2) (nf+1) (xs++(frC ⟨at_,s,ws⟩ lv).toList))∧(d 12=true→some (ν 12).1=Value.ownBlock (.slice pf nf cf)∨W.heap.size≤(ν 12).1)∧Fr2 g (Value.ownBlock (.slice pf nf cf)) W w'∧(d 12=true→d 15=true→w'.cell? ⟨g,5,none⟩=some (.slice (some ⟨(ν 12).1,0,none⟩) (nf+1) (ν 12).2))∧g<w'.heap.size
theorem Qai {yb g at_ B nf nw cf:Nat}{pf:Option Addr}{s:St}{ws:List Wy}{lv:Value}{xs:List Value}{W:World}:KT (Q123 yb g at_ B nf nw cf pf s ws lv xs W):=by
 intro d ν w' w1 h hb;obtain⟨k0,k1,k2,k3,k4,k5,k6,k7,k8,k9,k10,k11,k12⟩:=h;exact⟨Q0 hb k0,fun j hj=>Q0 hb (k1 j hj),fun h=>Q0 hb (k2 h),fun i=>(hb.frozen (p:=⟨g,i,none⟩) k12).trans (k3 i),fun j h1 h2=>(hb.cell (p:=⟨g,j,none⟩) k12).trans (k4 j h1 h2),fun h=>Q12 hb (k5 h) (by simp[Q2g]),k6,fun h=>Qd (k7 h) hb,fun h=>Qd (k8 h) hb,k9,k10.trans (row':=none) (Fr2.of_below hb) (fun _ e=>Yfk),fun h h2=>Q0 hb (k11 h h2),Nat.lt_of_lt_of_le k12 hb.size⟩
theorem Qnk {yb g at_ B nf nw cf:Nat}{pf:Option Addr}{s:St}{ws:List Wy}{lv:Value}{xs:List Value}{W:World}:MT (Q123 yb g at_ B nf nw cf pf s ws lv xs W) [11,12,15]:=by
 intro d d' ν w' hd h;unfold Q123 at *;simpa only[← hd 11 Y3,← hd 12 Y3,← hd 15 Y3] using h
theorem Quj {yb g at_ B nf nw cf:Nat}{pf:Option Addr}{s:St}{ws:List Wy}{lv:Value}{xs:List Value}{W:World}:NT (Q123 yb g at_ B nf nw cf pf s ws lv xs W) [11,12]:=by
 intro i hi d ν c w' hd h;unfold Q123 at *;exact Yp5
theorem Qdh (w0:World)(M:Mb)(l:List In)(ds:List Df)(ctx:Int)(ρ:Nat→Nat)(f:Nat→Value)(mm:Nat)(fv:Value)(fs:List (Fm×Value))(k:Lk)(y:Wy)(w:World)(hK:Q1x w0 w M l ds ctx k ρ f mm fv fs)(hg:Co.good l=true)(hn:ds.length≤1000000000)(hlt:y.at_<l.length)(hys:Co.start l y.at_=true)(hST0:M.ST=90)(hFT0:M.FT=97):Calls Tryz.prog 28 #[.pointer (some ⟨M.g,0,none⟩),.agg (Q2n y.at_ y.s)] w (fun e w'=>e=.returned (.bool (Co.enterK l ds ctx k y).1)∧∃ ρ' fv' fs',Q1x w0 w' M l ds ctx (Co.enterK l ds ctx k y).2 ρ' f mm fv' fs'):=by
 have hlen:l.length≤100000:=Y20;go_enter Tryz.func28,Tryz.ntmps28
 go_upto_region 2 with fail
 refine Q1g (fun W=>Q1x w0 W M l ds ctx k ρ f mm fv fs∧blk W w.heap.size=Q2n y.at_ y.s∧w.heap.size<W.heap.size) ⟨hK.keep Y14,Yg1,by simp⟩ ?_;rintro W ⟨hKW,hyb,hzW⟩;have hat:y.at_≤1000000:=Y20;obtain⟨pk,ck,hkv⟩:=Q15 (hKW.rows y.at_);have hrw:=hKW.rows y.at_;rw[hkv,hST0] at hrw;obtain⟨g0,g1,g2,g3,g4,g5,g6,g7,g8,g9⟩:=hKW.gs;have hjt:=hKW.joints.1 y.at_ hlt;have zg:=hKW.lg;have zj:=hKW.lj;have hMk:=hKW.kept;obtain⟨y0,ys⟩:=Q3r hyb;have hbd:decide ((y.at_:Int)<0)=false:=by simp
 have hbl:(y.at_:Int)<(l.length:Int):=Y1
 go_cut [9] (fun s9 wx=>s9=.bool (Co.knownB k l y)∧Q1x w0 wx M l ds ctx k ρ f mm fv fs∧blk wx w.heap.size=Q2n y.at_ y.s∧w.heap.size<wx.heap.size)
 case first =>
  obtain⟨an,han⟩:∃ b,(k.kept y.at_).any (fun t=>y.s.within t)=b:=⟨_,rfl⟩;have HA:=Lib.hid han;have hEK:Co.knownB k l y=(Co.jointB l y.at_&&an):=by unfold Co.knownB;rw[han]
  clear han;cases hj:Co.jointB l y.at_
  all_goals rw[hj] at hjt hEK
  · refine Ql (Q18a w.heap.size M.g M.jb M.mb y.at_ l.length M.jc mm w0.heap.size f false y.s (k.kept y.at_) pk ck W) Yc Yc ?_ ?_
    · exact Ytk
    refine Yv4 ?_;intro hN
    repeat (first
     | go_big_quiet_skip
     | (go_big_quiet_want
        first
         | ((first|(refine Q30 rfl rfl rfl hat (fun w' hC=>Yhm) hkv ?_)|(refine Q3 rfl rfl (fun w' hC=>Yhn) ?_)|(refine Q3i rfl rfl (fun w' hC=>Yhn) ?_)|(refine Q2o rfl rfl (fun w' hC=>Yhn) ?_)|(refine Q6 rfl rfl (fun w' hC=>Yhn) ?_))
            simp only[Act.put,List.setIfInBounds_toArray,List.set_cons_succ,List.set_cons_zero]
            go_big_quiet_on)
         | (go_big_quiet_op
            first
             | go_big_quiet_on
             | (apply Exists.intro
                refine⟨fun w' hC=>?_,?_⟩
                · (first|fail)
                  (try simp only[id]);exact⟨rfl,Yho⟩
                go_big_quiet_on))))
    refine wpQuiet_nil ?_;intro w9 hC;obtain⟨k0,k1,k2,k3,k4,k5,k6,k7⟩:=hC;refine Yvn ?_;intro z0 z1;have z3:=Q1 k3;have hz9:=k7.size;have hB9:Below W.heap.size W w9:=Y2;go_wp2
    (go_meet;exact⟨by rw[hEK];rfl,hKW.keep hB9,Q12 hB9 hyb Y18,by have:=hB9.size;omega⟩)
  · cases an
    · exact Yjo
    · exact Yjo
 case rest =>
  clear hrw hkv hMk hjt g0 g1 g2 g3 g4 g5 g6 g7 g8 g9 y0 ys hKW hyb hzW zj zg;obtain⟨rfl,hKV,hyV,hzV⟩:=hcut;cases hKB:Co.knownB k l y
  · obtain⟨-,-,-,-,-,-,-,-,g8,-⟩:=hKV.gs
    have hst:=hKV.steps;cases hmx:decide (1024≤k.steps)
    · have hs1024:k.steps<1024:=by simpa using hmx
      have hmi:decide ((1024:Int)≤(k.steps:Int))=false:=by simp only[decide_eq_false_iff_not];omega
      have hwr:RowKit.wrap64 ((k.steps:Int)+1)=(k.steps:Int)+1:=IntWalk.wrap64_in _ Y1;have hfg:=hKV.cells.2;have hyg:w.heap.size≠M.g:=fun e=>by have:=hK.lg;omega
      go_upto_region 8 with fail
      refine Q1g (fun U=>Q1x w0 U M l ds ctx { k with steps:=k.steps+1 } ρ f mm fv fs∧blk U w.heap.size=Q2n y.at_ y.s∧w.heap.size<U.heap.size) ⟨hKV.setSteps hs1024,by rw[Q4c,if_neg hyg];exact hyV,by simpa using hzV⟩ ?_;clear hKV hyV hzV g8 hfg;rintro U ⟨hKU0,hyU,hzU⟩;obtain⟨ρ2,hρ2⟩:∃ r:Nat→Nat,r=fun b=>if U.heap.size≤b then 0 else ρ b:=⟨_,rfl⟩
      have hKU:=hKU0.rerole (ρ':=ρ2) (fun b hb=>by rw[hρ2];simp only;rw[if_neg Y1]);clear hKU0;obtain⟨pf,cf,hpf⟩:=Q15 hKU.row;subst hpf;obtain⟨ws,hs1⟩:∃ v,(Co.stepR l ds ctx y.at_ y.s).1=v:=⟨_,rfl⟩;obtain⟨e,hs2⟩:∃ v,(Co.stepR l ds ctx y.at_ y.s).2=v:=⟨_,rfl⟩;have HS:=Lib.hid (And.intro hs1 hs2);have hwl:ws.length≤2:=by rw[← hs1];exact Co.stepR_len _ _ _ _ _
      obtain⟨g0,g1,g2,-⟩:=hKU.gs;obtain⟨y0,ysr⟩:=Q3r hyU;have hIU:=hKU.insW;have hDU:=hKU.defsW;refine Q2 (Q124 w.heap.size M.g M.lb M.lc M.dc y.at_ ws.length M.p l ds ctx y.s ws U) [12] [12] (fun _ c=>.tuple #[Qra ws.length c,.int .i64 e]) rfl Yc ?_ (fun d d' ν w'=>Qnl d d' ν w') (fun d ν w' w1=>Qaj d ν w' w1) (fun i hi d ν c w'=>Quk i hi d ν c w') ?_
      · intro d ν hd
        refine⟨y0,ysr,g0,g1,g2,hIU,hDU,?_,Y14⟩;intro h;rw[hd _ Y0] at h;cases h
      apply Exists.intro;refine⟨fun ν=>?_,?_,?_⟩
      · (try simp only[List.append])
        iterate 12
         (refine Qa Y0 ?_
          apply Exists.intro;refine⟨fun D hD hR hN K hK=>?_,Yc,?_⟩
          · first
            | (go_big_quiet_skip;exact hK)
            | (go_big_quiet_want
               first
                | ((first|(refine Q16 rfl rfl (fun w' hC=>Yhp) ?_)|(refine Q3g rfl rfl (fun w' hC=>by obtain⟨d,hd,hC⟩:=hR w' hC;obtain⟨k0,k1,k2,k3,k4,k5,k6,k7,k8⟩:=hC;exact⟨k3,k4⟩) ?_)|(refine Q3 rfl rfl (fun w' hC=>Yhp) ?_)|(refine Q2e rfl rfl (fun w' hC=>by obtain⟨d,hd,hC⟩:=hR w' hC;obtain⟨k0,k1,k2,k3,k4,k5,k6,k7,k8⟩:=hC;exact k1) ?_))
                   simp only[Act.put,List.setIfInBounds_toArray,List.set_cons_succ,List.set_cons_zero]
                   go_big_quiet_on
                   exact hK)
                | (go_big_quiet_op
                   go_big_quiet_on
                   exact hK)))
        (refine Q2k Y0 Yc (fun d w' hd hC=>?_) ?_
         · have hC0:=hC
           obtain⟨k0,k1,k2,k3,k4,k5,k6,k7,k8⟩:=hC0;refine⟨47,_,Yez,?_⟩;refine (Qvo M.lb M.lc M.dc y.at_ M.p l ds ctx y.s w' k5 k6 hlen hn).mono ?_;rw[HS.out.1,HS.out.2];rintro e1 w1 ⟨v1,rfl,hown1,hb1⟩;obtain⟨c1,rfl⟩:=Qj2 hown1;refine⟨c1,rfl,?_⟩;have hsz:=k8.size;have hC1:=Qaj _ _ _ _ hC hb1;obtain⟨k0,k1,k2,k3,k4,k5,k6,-,k8⟩:=hC1;refine⟨k0,k1,k2,k3,k4,k5,k6,fun _=>?_,k8⟩;have h3:(Qo ν 12 c1 12)=c1:=rfl;rw[h3];exact Q1a hown1 hsz
         simp only[Act.put,List.setIfInBounds_toArray,List.set_cons_succ,List.set_cons_zero,Nat.reduceAdd,Nat.zero_add,Nat.reduceBEq,beq_self_eq_true,cond_true,cond_false])
        iterate 5
         (refine Qa Y0 ?_
          apply Exists.intro;refine⟨fun D hD hR hN K hK=>?_,Yc,?_⟩
          · first
            | (go_big_quiet_skip;exact hK)
            | (go_big_quiet_want
               first
                | ((first|fail)
                   simp only[Act.put,List.setIfInBounds_toArray,List.set_cons_succ,List.set_cons_zero]
                   go_big_quiet_on
                   exact hK)
                | (go_big_quiet_op
                   go_big_quiet_on
                   exact hK)))
        exact rfl
      · exact Yoo
      · intro ν w8 d hd hC
        obtain⟨k0,k1,k2,k3,k4,k5,k6,k7,k8⟩:=hC;have q12:=hd 12 Y0;have hB8:Below U.heap.size U w8:=k8;have hK8:=hKU.keep hB8;have hown:=k7 q12;have hy8:=Q12 hB8 hyU Y18;clear k0 k1 k2 k3 k4 k5 k6 k7 k8;generalize Qra ws.length (ν 12)=v at *;have hz8:=hB8.size;obtain⟨y0,-⟩:=Q3r hy8;cases he:(e==0)
        · have hne:(e != 0)=true:=by simp only[bne,he];rfl
          have EE:=Lib.hid (show Co.enterK l ds ctx k y=(false,{ k with steps:=k.steps+1,code:=e,vat:=y.at_ }) by unfold Co.enterK;rw[hKB,hmx,hs1,hs2,he];rfl)
          go_upto_region 10 with fail
          obtain⟨-,-,-,-,-,-,g6,g7,-,-⟩:=hK8.gs;have hfz:=hK8.cells.2;refine Q2 (Q16i w.heap.size M.g y.at_ e k.code k.vat w8) [8,12] [] (fun _ _=>undef) rfl Yc ?_ (fun d d' ν w'=>Qnm d d' ν w') (fun d ν w' w1=>Qnn d ν w' w1) (fun i hi=>Yf0) ?_
          · exact Yom
          apply Exists.intro;refine⟨fun ν=>?_,?_,?_⟩
          · (try simp only[List.append])
            iterate 8
             (refine Qa Y0 ?_
              apply Exists.intro;refine⟨fun D hD hR hN K hK=>?_,Yc,?_⟩
              · first
                | (go_big_quiet_skip;exact hK)
                | (go_big_quiet_want
                   first
                    | ((first|(refine Q3 rfl rfl (fun w' hC=>Yga) ?_))
                       simp only[Act.put,List.setIfInBounds_toArray,List.set_cons_succ,List.set_cons_zero]
                       go_big_quiet_on
                       exact hK)
                    | (go_big_quiet_op
                       go_big_quiet_on
                       exact hK)))
            (refine Qh rfl rfl rfl rfl Yc (fun d w' hd hC=>?_) ?_
             · obtain⟨k0,k1,k2,k3,k4,k5⟩:=hC
               have r:=hd.open_;refine⟨_,(by simp[k1,k3,go_sem];exact rfl),?_⟩;refine⟨?_,?_,?_,fun i=>Yhq,fun j h1 h2 h3=>?_,Fr2.set k5⟩
               · exact Yrp
               · rw[Q11 k1];simp[upd]
               · rw[Q11 k1];simp[upd,k2]
               · rw[Q11 k1,if_neg h2];exact k4 j h1 h2 h3)
            iterate 3
             (refine Qa Y0 ?_
              apply Exists.intro;refine⟨fun D hD hR hN K hK=>?_,Yc,?_⟩
              · first
                | (go_big_quiet_skip;exact hK)
                | (go_big_quiet_want
                   first
                    | ((first|(refine Q3 rfl rfl (fun w' hC=>Yga) ?_))
                       simp only[Act.put,List.setIfInBounds_toArray,List.set_cons_succ,List.set_cons_zero]
                       go_big_quiet_on
                       exact hK)
                    | (go_big_quiet_op
                       go_big_quiet_on
                       exact hK)))
            (refine Qh rfl rfl rfl rfl Yc (fun d w' hd hC=>?_) ?_
             · obtain⟨k0,k1,k2,k3,k4,k5⟩:=hC
               have r:=hd.open_;refine⟨_,(by simp[k2,k3,go_sem];exact rfl),?_⟩;refine⟨?_,?_,?_,fun i=>Yhq,fun j h1 h2 h3=>?_,Fr2.set k5⟩
               · exact Yrp
               · rw[Q11 k2];simp[upd,k1]
               · rw[Q11 k2];simp[upd]
               · rw[Q11 k2,if_neg h3];exact k4 j h1 h2 h3)
            exact rfl
          · intro i hi;cases hi
          · intro ν w7 d hd hC
            obtain⟨k0,k1,k2,k3,k4,k5⟩:=hC;have q8:=hd 8 Y0;have q12:=hd 12 Y0;simp only[q8,q12,cond_true] at k1 k2;have hKf:=hK8.setCA k5 k1 k2 k4 k3;go_wp2;go_ret;rw[EE.out];exact⟨rfl,ρ2,_,fs,hKf⟩
        · obtain rfl:e=0:=by simpa using he
          have hne:((0:Int) != 0)=false:=rfl;have hnb:∀ b,v.ownBlock=some b→b≠M.nb:=fun b hb=>by have h1:=(hown.lt b hb).1;have h2:=hKU.ln;omega
          have hrole:∀ b,v.ownBlock=some b→ρ2 b=0:=fun b hb=>by have h1:=(hown.lt b hb).1;simp only[hρ2,if_pos h1]
          go_upto_region 13 with (first|(go_at_call 48;(with_reducible refine (Qy5 U.heap.size y.at_ w0 M l ds ctx _ _ _ _ _ { k with steps:=k.steps+1 } v ws _ (hK8.keep Y14) hg hlt hys (Qd hown Y14) hnb Y1).mono ?_);rintro e9 w9 ⟨rfl,hKN,hFN⟩))
          refine Q1g (fun X=>Q1x w0 X M l ds ctx { k with steps:=k.steps+1,notes:=Q45 k.notes y.at_ (Co.noteN l y.at_ ws (k.notes y.at_)) } ρ2 f mm (.slice pf fs.length cf) fs∧blk X w.heap.size=Q2n y.at_ y.s∧X.ownsRow U.heap.size 93 590 v ws.length (Q1p ws)) ⟨hKN,?_,Qv hown (fun b hb=>hFN.block b (hown.lt b hb).2 (hnb b hb) Y3)⟩ ?_
          · have h1:=hFN.block w.heap.size (Q1o (w:=w8) (b:=w.heap.size) (by rw[hy8,Q1y];decide)) (fun e=>by have:=hK.ln;omega) Y3
            rw[← hy8];unfold blk;rw[h1]
          rintro X ⟨hKX,hyX,hownX⟩;clear hK8 hown hKN hFN hy8 y0;have EE:=Lib.hid (show Co.enterK l ds ctx k y=(true,{ k with steps:=k.steps+1,stk:=⟨y.at_,y.s,ws⟩ :: k.stk,notes:=Q45 k.notes y.at_ (Co.noteN l y.at_ ws (k.notes y.at_)) }) by unfold Co.enterK;rw[hKB,hmx,hs1,hs2,he];simp only[Bool.false_eq_true,if_false,Bool.not_true];rw[Qw8 (fun n=>Co.noteN l y.at_ ws n)]);have hzX:=hKX.below.size;have hgX:=hKX.lg;obtain⟨y0,ysr⟩:=Q3r hyX;obtain⟨-,-,-,-,-,g5,-⟩:=hKX.gs;have hfz:=hKX.cells.2;have hne1:some w.heap.size≠Value.ownBlock (.slice pf fs.length cf):=fun e=>by have h1:=hK.row;have h2:=(h1.lt _ e.symm).2;omega
          have hne2:some M.g≠Value.ownBlock (.slice pf fs.length cf):=fun e=>by have h1:=hK.rf _ e.symm;rw[hK.rg] at h1;omega
          have hrwX:=hKX.row;rw[hFT0] at hrwX;have hleft:Q1w X ρ2 v ws:=Qfq hownX hrole;have hroom:mm+fs.length+1≤k.steps+1:=by have:=hK.room;omega
          have hfl:fs.length≤5000:=by have h1:=hK.room;have h2:=hK.steps;omega
          have hv1:v.cells=#[v]:=Qfr hownX;have hv2:v.oneCell'=true:=Qxl hownX;refine Q2 (Q123 w.heap.size M.g y.at_ w0.heap.size fs.length ws.length cf pf y.s ws v (Q1m fs) X) [11,12,15] [11,12] (fun i c=>bif i==11 then .slice (some ⟨c.1,0,none⟩) 1 1 else .slice (some ⟨c.1,0,none⟩) (fs.length+1) c.2) rfl Yc ?_ (fun d d' ν w'=>Qnk d d' ν w') (fun d ν w' w1=>Qai d ν w' w1) (fun i hi d ν c w'=>Quj i hi d ν c w') ?_
          · intro d ν hd
            refine⟨y0,ysr,fun _=>g5,hfz,fun j _ _=>rfl,?_,?_,fun _=>hrwX,?_,?_,Fr2.drew (Fr2.refl _ _ _),?_,hKX.lg⟩
            all_goals (intro h;rw[hd _ Y0] at h;cases h)
          apply Exists.intro;refine⟨fun ν=>?_,?_,?_⟩
          · (try simp only[List.append])
            iterate 11
             (refine Qa Y0 ?_
              apply Exists.intro;refine⟨fun D hD hR hN K hK=>?_,Yc,?_⟩
              · first
                | (go_big_quiet_skip;exact hK)
                | (go_big_quiet_want
                   first
                    | ((first|(refine Q3 rfl rfl (fun w' hC=>Yhr) ?_)|(refine Q3h rfl rfl (fun w' hC=>Yhs) ?_)|(refine Q2e rfl rfl (fun w' hC=>Yht) ?_)|(refine Q3a (fm:=⟨y.at_,y.s,ws⟩) rfl rfl rfl rfl hv1 ?_))
                       simp only[Act.put,List.setIfInBounds_toArray,List.set_cons_succ,List.set_cons_zero]
                       go_big_quiet_on
                       exact hK)
                    | (go_big_quiet_op
                       go_big_quiet_on
                       exact hK)))
            (refine Qq Y0 Yc (fun d w' hd hC=>?_) ?_
             · have n12:d 12=false:=(by cases hq:d 12 with|false=>rfl|true=>exact absurd (hd.shut 12 11 Yd hq) Y1a)
               have hb:=Below.alloc (Below.refl _ w') (Nat.le_refl _) (.cells (frC ⟨y.at_,y.s,ws⟩ v) 97);refine⟨(w'.heap.size,0),_,Qgp w' (.tmp 99) rfl ⟨y.at_,y.s,ws⟩ v rfl,?_⟩;have hC1:=Qai _ _ _ _ hC hb;obtain⟨k0,k1,k2,k3,k4,k5,k6,k7,k8,k9,k10,k11,k12⟩:=hC1;obtain⟨-,-,-,-,-,-,-,-,-,-,j10,-,-⟩:=hC;have hsz2:=j10.size;refine⟨k0,k1,k2,k3,k4,fun _=>Yg8,fun _=>by simpa[Qo] using hsz2,k7,fun h=>?_,fun h=>?_,k10,fun h=>?_,k12⟩
               all_goals (have h':d 12=true:=h;rw[n12] at h';cases h')
             simp only[Act.put,List.setIfInBounds_toArray,List.set_cons_succ,List.set_cons_zero,Nat.reduceAdd,Nat.zero_add,Nat.reduceBEq,beq_self_eq_true,cond_true,cond_false])
            (refine Qq Y0 Yc (fun d w' hd hC=>?_) ?_
             · have n15:d 15=false:=(by cases hq:d 15 with|false=>rfl|true=>exact absurd (hd.shut 15 12 Yd hq) Y1a)
               have n12:=hd.open_;have q11:=hd.ahead 11 Yd;obtain⟨k0,k1,k2,k3,k4,k5,k6,k7,k8,k9,k10,k11,k12⟩:=hC;have hsz:=k10.size;have hzx:=Q1o (w:=w') (b:=(ν 11).1) (by rw[k5 q11,Q2g];decide);refine Q5j w' (.tmp 93) (.tmp 100) rfl w0.heap.size fs.length (fun _=>rfl) _ _ rfl (k7 n12) (ν 11).1 ⟨y.at_,y.s,ws⟩ v rfl (k5 q11) (Qkf _ _ hv2) Y1 (by have:=hKX.below.size;omega) (fun g1 c1 w2 r1 r2 r3=>?_);have hrg:∀ b,some b≠Value.ownBlock (.slice pf fs.length cf)→b<w'.heap.size→w2.heap[b]?=w'.heap[b]?:=fun b h1 h2=>r2.block b h2 h1
               have ck:∀ b o u,some b≠Value.ownBlock (.slice pf fs.length cf)→w'.cell? ⟨b,o,none⟩=some u→w2.cell? ⟨b,o,none⟩=some u:=fun b o u h1 h2=>(World.cell?_of_block (w:=w') (a:=⟨b,o,none⟩) (hrg b h1 (Q1 h2))).trans h2
               have hgl:=k12;refine⟨ck _ _ _ hne1 k0,fun j hj=>ck _ _ _ hne1 (k1 j hj),?_,fun i=>(World.frozen?_of_block (w:=w') (a:=⟨M.g,i,none⟩) (hrg _ hne2 hgl)).trans (k3 i),fun j h1 h2=>(World.cell?_of_block (w:=w') (a:=⟨M.g,j,none⟩) (hrg _ hne2 hgl)).trans (k4 j h1 h2),fun h=>?_,k6,fun h=>?_,fun _=>by simpa[Qo] using r1,fun _=>?_,?_,fun h h2=>?_,Nat.lt_of_lt_of_le k12 r2.size⟩
               · exact fun _=>ck _ _ _ hne2 (k2 n15)
               · have h3:(Qo ν 12 (g1,c1) 11)=ν 11:=rfl
                 rw[h3,← k5 q11];unfold blk;rw[hrg _ (fun e=>by have h4:=k6 q11;have h5:=(hrwX.lt _ e.symm).2;omega) hzx]
               · have h':upd d 12 12=false:=h
                 simp[upd] at h'
               · exact Ys9
               · exact k10.trans (Fr2.grown r2) (fun q e=>.inl e.symm)
               · have h':d 15=true:=h2
                 rw[n15] at h';cases h'
             simp only[Act.put,List.setIfInBounds_toArray,List.set_cons_succ,List.set_cons_zero,Nat.reduceAdd,Nat.zero_add,Nat.reduceBEq,beq_self_eq_true,cond_true,cond_false])
            iterate 2
             (refine Qa Y0 ?_
              apply Exists.intro;refine⟨fun D hD hR hN K hK=>?_,Yc,?_⟩
              · first
                | (go_big_quiet_skip;exact hK)
                | (go_big_quiet_want
                   first
                    | ((first|(refine Q3 rfl rfl (fun w' hC=>Yhr) ?_)|(refine Q3h rfl rfl (fun w' hC=>Yhs) ?_)|(refine Q2e rfl rfl (fun w' hC=>Yht) ?_)|(refine Q3a (fm:=⟨y.at_,y.s,ws⟩) rfl rfl rfl rfl hv1 ?_))
                       simp only[Act.put,List.setIfInBounds_toArray,List.set_cons_succ,List.set_cons_zero]
                       go_big_quiet_on
                       exact hK)
                    | (go_big_quiet_op
                       go_big_quiet_on
                       exact hK)))
            (refine Qh rfl rfl rfl rfl Yc (fun d w' hd hC=>?_) ?_
             · have q12:=hd.ahead 12 Yd
               have n15:=hd.open_;obtain⟨k0,k1,k2,k3,k4,k5,k6,k7,k8,k9,k10,k11,k12⟩:=hC;have k2':=k2 n15;refine⟨_,(by simp[k2',k3,go_sem];exact rfl),?_⟩;refine⟨?_,fun j hj=>?_,fun h=>?_,fun i=>Yhq,fun j h1 h2=>?_,fun h=>?_,k6,fun h=>?_,fun h=>Qv (k8 h) (fun b hb=>Below.heap_setCell _ _ _ _ ?_),k9,Fr2.set k10,fun h h2=>?_,by simpa using k12⟩
               · exact Yrp
               · rw[World.cell?_setCell_other _ _ _ _ (fun e=>hyg (congrArg Addr.block e).symm)];exact k1 j hj
               · have h':upd d 15 15=false:=h
                 simp[upd] at h'
               · rw[Q11 k2',if_neg h2];exact k4 j h1 h2
               · have h1:=k6 h
                 rw[Q4c,if_neg Y1];exact k5 h
               · have h':d 12=false:=h
                 rw[q12] at h';cases h'
               · have e:(ν 12).1=b:=Option.some.inj hb
                 rcases k9 h with h1|h1
                 · rw[e] at h1
                   exact fun e2=>hne2 (by rw[← h1,e2])
                 · exact fun e2=>by have e3:b=M.g:=e2;omega
               · rw[Q11 k2'];simp)
            exact rfl
          · exact Yob
          · intro ν w8 d hd hC
            obtain⟨k0,k1,k2,k3,k4,k5,k6,k7,k8,k9,k10,k11,k12⟩:=hC;have q11:=hd 11 Y0;have q12:=hd 12 Y0;have q15:=hd 15 Y0;have k2:=k11 q12 q15;have hown9:=k8 q12
            have hcF:Qg w8 M.g 10 (gF M l ds ctx (.slice (some ⟨(ν 12).1,0,none⟩) (fs.length+1) (ν 12).2) { k with steps:=k.steps+1,notes:=Q45 k.notes y.at_ (Co.noteN l y.at_ ws (k.notes y.at_)) }):=⟨fun j hj=>by
             by_cases e5:j=5
             · subst e5;exact k2
             · rw[k4 j hj e5,hKX.cells.1 j hj]
               unfold gF
               rcases j with _|_|_|_|_|_|_|_|_|j<;>first|rfl|omega,k3⟩
            obtain⟨ρ',hKf⟩:=hKX.push2 (w':=w8) (v':=.slice (some ⟨(ν 12).1,0,none⟩) (fs.length+1) (ν 12).2) (fm:=⟨y.at_,y.s,ws⟩) (lv:=v) (by rw[hFT0,Q2f];simpa[Q1m] using hown9) k10 hcF (fun b hb=>by have e:(ν 12).1=b:=Option.some.inj hb;rw[← e];exact k9 q12) hleft hroom;go_wp2;go_ret;rw[EE.out];exact⟨rfl,ρ',_,_,hKf⟩
    · have hmi:decide ((1024:Int)≤(k.steps:Int))=true:=by simp only[decide_eq_true_eq] at hmx ⊢;omega
      have hm2:(1024:Nat)≤k.steps:=by simpa using hmx
      have EE:=Lib.hid (show Co.enterK l ds ctx k y=(false,{ k with code:=150,vat:=y.at_ }) by unfold Co.enterK;rw[hKB,hmx];rfl)
      go_upto_region 5 with fail
      obtain⟨-,-,-,-,-,-,g6,g7,-,-⟩:=hKV.gs;obtain⟨y0,-⟩:=Q3r hyV;have hfz:=hKV.cells.2;have hyg:w.heap.size≠M.g:=fun e=>by have:=hK.lg;omega
      refine Q2 (Q16j w.heap.size M.g y.at_ 150 k.code k.vat wc) [7,11] [] (fun _ _=>undef) rfl Yc ?_ (fun d d' ν w'=>Qno d d' ν w') (fun d ν w' w1=>Qnp d ν w' w1) (fun i hi=>Yf0) ?_
      · exact Yom
      apply Exists.intro;refine⟨fun ν=>?_,?_,?_⟩
      · (try simp only[List.append])
        iterate 7
         (refine Qa Y0 ?_
          apply Exists.intro;refine⟨fun D hD hR hN K hK=>?_,Yc,?_⟩
          · first
            | (go_big_quiet_skip;exact hK)
            | (go_big_quiet_want
               first
                | ((first|(refine Q3 rfl rfl (fun w' hC=>Yga) ?_))
                   simp only[Act.put,List.setIfInBounds_toArray,List.set_cons_succ,List.set_cons_zero]
                   go_big_quiet_on
                   exact hK)
                | (go_big_quiet_op
                   go_big_quiet_on
                   exact hK)))
        (refine Qh rfl rfl rfl rfl Yc (fun d w' hd hC=>?_) ?_
         · obtain⟨k0,k1,k2,k3,k4,k5⟩:=hC
           have r:=hd.open_;refine⟨_,(by simp[k1,k3,go_sem];exact rfl),?_⟩;refine⟨?_,?_,?_,fun i=>Yhq,fun j h1 h2 h3=>?_,Fr2.set k5⟩
           · exact Yrp
           · rw[Q11 k1];simp[upd]
           · rw[Q11 k1];simp[upd,k2]
           · rw[Q11 k1,if_neg h2];exact k4 j h1 h2 h3)
        iterate 3
         (refine Qa Y0 ?_
          apply Exists.intro;refine⟨fun D hD hR hN K hK=>?_,Yc,?_⟩
          · first
            | (go_big_quiet_skip;exact hK)
            | (go_big_quiet_want
               first
                | ((first|(refine Q3 rfl rfl (fun w' hC=>Yga) ?_))
                   simp only[Act.put,List.setIfInBounds_toArray,List.set_cons_succ,List.set_cons_zero]
                   go_big_quiet_on
                   exact hK)
                | (go_big_quiet_op
                   go_big_quiet_on
                   exact hK)))
        (refine Qh rfl rfl rfl rfl Yc (fun d w' hd hC=>?_) ?_
         · obtain⟨k0,k1,k2,k3,k4,k5⟩:=hC
           have r:=hd.open_;refine⟨_,(by simp[k2,k3,go_sem];exact rfl),?_⟩;refine⟨?_,?_,?_,fun i=>Yhq,fun j h1 h2 h3=>?_,Fr2.set k5⟩
           · exact Yrp
           · rw[Q11 k2];simp[upd,k1]
           · rw[Q11 k2];simp[upd]
           · rw[Q11 k2,if_neg h3];exact k4 j h1 h2 h3)
        exact rfl
      · intro i hi;cases hi
      · intro ν w8 d hd hC
        obtain⟨k0,k1,k2,k3,k4,k5⟩:=hC;have q7:=hd 7 Y0;have q11:=hd 11 Y0;simp only[q7,q11,cond_true] at k1 k2;have hKf:=hKV.setCA k5 k1 k2 k4 k3;go_wp2;go_ret;rw[EE.out];exact⟨rfl,ρ,fv,fs,hKf⟩
  · have EE:=Lib.hid (show Co.enterK l ds ctx k y=(true,k) by unfold Co.enterK;rw[hKB];rfl)
    go_wp2;go_ret;rw[EE.out];exact⟨rfl,ρ,fv,fs,hKV⟩
end Hk
namespace Hk
attribute [-go_sem] Qm
theorem Qes (w:World)(zw:Array Value)(T:TypeId)(n:Int)(s:St)(hz:zw.size=590){j:Nat}(hj:j<590):((w.alloc (.cells zw T)).setRow w.heap.size (Q2n n s)).cell? ⟨w.heap.size,j,none⟩=some (Q7q n s j):=by
 have hb:blk (w.alloc (.cells zw T)) w.heap.size=zw:=Yg1;rw[Q2h,if_pos rfl,if_neg (by rw[hb,hz];decide)];unfold Q2n;rw[Qj,if_pos hj]
theorem Qi3:(Tryz.prog.info? 93).map (fun i=>i.zero.map (fun z=>z.cells[0]?))=some (some (some (.int .i64 0))):=Yc
theorem Qh1 (s:St):Tryz.prog.built 93 [(1,.agg s.cells)]=some (Q2n 0 s):=by
 obtain⟨it,z,h1,h2,h3,h4,h5⟩:=Q4k;have h0:=Qi3;rw[h1] at h0;simp only[Option.map_some,Option.some.injEq] at h0;rw[h4] at h0;simp only[Option.map_some,Option.some.injEq] at h0;rw[Q32 (places:=[(0,1),(1,589)]) h1 Tryz.underlying93 h4 Yc];rw[Q1n (off:=1) (n:=589) rfl (by simp only[Value.cells];exact s.cells_size) Y1];unfold Instr.fill;refine congrArg some ?_;unfold Q23 Q2n;rw[h5];refine Qx fun k hk=>?_
 have e1:(Value.agg s.cells).cells=s.cells:=rfl;rw[e1,s.cells_size];unfold Q7q;by_cases hk0:k=0
 · subst hk0
   rw[if_neg Y1,if_pos rfl,Array.getD_eq_getD_getElem?,h0];rfl
 · rw[if_pos Y1,if_neg hk0]
   unfold St.cells;rw[Q13 Y1]
theorem Q36 {ops:Array Oper}{rest:List Oper}{o:Oper}{a:Act}{w:World}{Q:Exit→Act→World→Prop}(hg:o.guard=none)(y:Operand)(ho:o.op=.build 93 #[(1,y)])(s:St)(hy:a.eval y=.agg s.cells)
 (h:wpList Tryz.prog ops Q rest (a.put o.dst (.agg (Q2n 0 s))) w):wpList Tryz.prog ops Q (o::rest) a w :=
 wpList_plain hg fun K hK=>by
  have hr:=run_build (P:=Tryz.prog) w 93 _ _ (Qh1 s);unfold Oper.wp;simp[execOp,ho,hy,hr,Result.andThen];exact hK _ _ h
def Q19t (g gq n cap:Nat)(w:World)(w':World):Prop:=w'.cell? ⟨g,5,none⟩=some (.slice (some ⟨gq,0,none⟩) (n+1) cap)∧Below w.heap.size w w'
theorem Qnj {g gq n cap:Nat}{w:World}:KC (Q19t g gq n cap w):=by
 intro w' w1 h hb;obtain⟨k0,k1⟩:=h;exact⟨Q0 hb k0,Q8 k1 hb⟩
theorem start0 {l:List In}(hg:Co.good l=true):Co.start l 0=true:=by
 have h:=(Co.good_facts hg).1;unfold Co.start;obtain⟨n,hn⟩:∃ n,l.length=n+1:=⟨l.length-1,Y1⟩;rw[hn];unfold Co.met;simp[hn]
theorem Qrc (w0:World)(M:Mb)(l:List In)(ds:List Df)(ctx:Int)(ρ:Nat→Nat)(f:Nat→Value)(mm:Nat)(fv:Value)(fs:List (Fm×Value))(k:Lk)(s0:St)(w:World)(hK:Q1x w0 w M l ds ctx k ρ f mm fv fs)(hg:Co.good l=true)(hn:ds.length≤1000000000)(hlt:0<l.length)(hys:Co.start l 0=true)(hST0:M.ST=90)(hFT0:M.FT=97):Calls Tryz.prog 28 #[.pointer (some ⟨M.g,0,none⟩),.agg (Q2n 0 s0)] w fun e w'=>e=.returned (.bool (Co.enterK l ds ctx k ⟨0,s0⟩).1)∧∃ ρ' fv' fs',Q1x w0 w' M l ds ctx (Co.enterK l ds ctx k ⟨0,s0⟩).2 ρ' f mm fv' fs':=Qdh w0 M l ds ctx ρ f mm fv fs k ⟨0,s0⟩ w hK hg hn hlt hys hST0 hFT0
theorem Qv2 (w0:World)(M:Mb)(l:List In)(ds:List Df)(ctx:Int)(ρ:Nat→Nat)(f:Nat→Value)(mm:Nat)(fv:Value)(fs:List (Fm×Value))(w:World)(hK:Q1x w0 w M l ds ctx Co.k0 ρ f mm fv fs)(hg:Co.good l=true)(hn:ds.length≤1000000000)(hST:M.ST=90)(hFT:M.FT=97):Calls Tryz.prog 16 #[.pointer (some ⟨M.g,0,none⟩)] w (fun e w'=>e=.returned (.bool (Co.lookK l ds ctx).1)∧∃ ρ' f' mm' fv' fs',Q1x w0 w' M l ds ctx (Co.lookK l ds ctx).2 ρ' f' mm' fv' fs'):=by
 have h0s:Co.start l 0=true:=start0 hg;have h0l:=Co.start_lt h0s;obtain⟨s0,hs0⟩:∃ s0:St,Hid (s0=St.first):=⟨_,Lib.hid rfl⟩;have hLK:=Co.lookK_eq l ds ctx;rw[← hs0.out] at hLK;obtain⟨b1,hb1e⟩:∃ b,(Co.enterK l ds ctx Co.k0 ⟨0,s0⟩).1=b:=⟨_,rfl⟩;obtain⟨k1,hk1e⟩:∃ b,(Co.enterK l ds ctx Co.k0 ⟨0,s0⟩).2=b:=⟨_,rfl⟩;have hmu1:Co.muK k1≤5000:=by rw[← hk1e];exact Co.mu_first
 have hok1:Co.OkW l k1:=by rw[← hk1e];exact Co.OkW.enter (fun g hg=>by cases hg) h0l
 rw[hb1e,hk1e] at hLK;have HE:=Lib.hid (And.intro hb1e hk1e);clear hb1e hk1e;cases b1
 · have EE:=Lib.hid (show Co.lookK l ds ctx=(false,k1) from hLK)
   clear hLK;go_enter Tryz.func16,Tryz.ntmps16;go_wp2_with (first|(refine Q36 rfl (.tmp 6) rfl s0 rfl ?_)|(refine Y7u ?_;intro w1 hb1)|(refine Y7y ?_;intro w2 ρ2 fv2 fs2 hK2));go_ret;rw[EE.out];exact⟨rfl,_,_,_,_,_,hK2⟩
 · have hA:=Lib.hid (show Co.allK l ds ctx 5000 k1=Co.lookK l ds ctx from hLK.symm)
   have hO:=Lib.hid hok1;clear hLK hok1;go_enter Tryz.func16,Tryz.ntmps16;go_wp2_with (first|(refine Q36 rfl (.tmp 6) rfl s0 rfl ?_)|(refine Y7u ?_;intro w1 hb1)|(refine Y7y ?_;intro w2 ρ2 fv2 fs2 hK2));generalize 5000=N0 at *
   go_loopg [3] N0 (fun n s3 wr=>∃ (k:Lk) (ρ:Nat→Nat) (f:Nat→Value) (mm:Nat) (fv:Value) (fs:List (Fm×Value)),Q1x w0 wr M l ds ctx k ρ f mm fv fs∧Hid (Co.OkW l k)∧Co.muK k≤n∧Hid (Co.allK l ds ctx n k=Co.lookK l ds ctx))
   case atStart =>
    exact⟨k1,_,_,_,_,_,hK2,hO,hmu1,hA⟩
   case round =>
    clear hK2 hA hO hmu1 HE hK;obtain⟨k,ρr,fr,mr,fvr,fsr,hKr,hO,hmu,hA⟩:=hrel;rcases List.eq_nil_or_concat fsr with rfl|⟨fs',q,rfl⟩
    · have hsk:k.stk=[]:=hKr.stk
      have EE:=Lib.hid (show Co.lookK l ds ctx=(true,k) by rw[← hA.out];exact Co.allK_nil hsk);obtain⟨pf,cf,rfl⟩:=Q15 hKr.row;obtain⟨-,-,-,-,-,g5,-⟩:=hKr.gs;have zg:=hKr.lg;go_wp2;go_ret;rw[EE.out];exact⟨rfl,_,_,_,_,_,hKr⟩
    · obtain⟨fm,lv⟩:=q
      rw[List.concat_eq_append] at hKr;have hsk:k.stk=fm::(fs'.map (·.1)).reverse:=by rw[hKr.stk];simp
      have hpos:=Co.mu_pos hsk;obtain⟨n,rfl⟩:∃ n',gk=n'+1:=⟨gk-1,Y1⟩;have hrow:=hKr.row;rw[List.length_append,List.length_singleton] at hrow;obtain⟨gq,cap,rfl,hgB,hgs,hnc,hmx,hcell,hfz⟩:=Q1h hrow Y1;have hst:=hKr.steps;have hrm:=hKr.room;rw[List.length_append,List.length_singleton] at hrm;have hok:=hO.out fm (by rw[hsk];exact List.mem_cons_self);have hfl:=hok.1;have hlft:=hKr.left (fm,lv) Y3;simp only at hlft;have hlc:wr.cell? ⟨gq,fs'.length*591+590,none⟩=some lv:=by have h:=Q4a (fs'++[(fm,lv)]) fs'.length Y3 590 Y1;have h2:=hcell _ _ h;rw[h2];simp[frF]
      obtain⟨-,-,-,-,-,g5,-⟩:=hKr.gs;have zg:=hKr.lg;have hw1:RowKit.wrap64 (((fs'.length+1:Nat):Int)-1)=(fs'.length:Int):=by rw[show ((fs'.length+1:Nat):Int)-1=(fs'.length:Int) from Y1];exact IntWalk.wrap64_in _ Y1
      go_upto_region 4 with fail
      refine Ql (Q19t M.g gq fs'.length cap wr) Yc Yc ?_ ?_
      · exact Ync
      refine Yv4 ?_;intro hN
      repeat (first
       | go_big_quiet_skip
       | (go_big_quiet_want
          first
           | ((first|(refine Q3h rfl rfl (fun w' hC=>Yhb) ?_))
              simp only[Act.put,List.setIfInBounds_toArray,List.set_cons_succ,List.set_cons_zero]
              go_big_quiet_on)
           | (go_big_quiet_op
              first
               | go_big_quiet_on
               | (apply Exists.intro
                  refine⟨fun w' hC=>?_,?_⟩
                  · (first|fail)
                    (try simp only[id]);exact⟨rfl,by first|exact hC|exact Qnj _ _ hC hb1⟩
                  go_big_quiet_on))))
      refine wpQuiet_nil ?_;intro w9 hC;obtain⟨k0,k1⟩:=hC;have z0:=Q1 k0;have hz9:=k1.size;have hK9:=hKr.keep (by assumption:Below wr.heap.size wr w9);have hlc9:=Q0 (by assumption:Below wr.heap.size wr w9) hlc;have hlf9:=hlft.keep (by assumption:Below wr.heap.size wr w9);clear hlc hlft g5 hcell hrow;have hR9:wr.heap.size≤w9.heap.size:=(by assumption:Below wr.heap.size wr w9).size;clear hKr;rcases hlv:fm.left with _|⟨y,ys⟩
      all_goals rw[hlv] at hlf9
      · obtain⟨pl,cl,rfl⟩:=hlf9.empty
        have hlm:=Co.mu_leave (l:=l) hsk;have hA2:=Lib.hid ((Co.allK_leave hsk hlv).symm.trans hA.out);have hO2:=Lib.hid (hO.out.leave hsk);clear hA hO;go_wp2_with (go_at_call 30;refine Y80 ?_;intro w2 ρ2 f2 m2 fv2 hK2)
        go_roundg n
        case measure=>omega
        case rel=>exact⟨_,_,_,_,_,_,hK2,hO2,Y1,hA2⟩
      · obtain⟨bl,ol,cl,rfl,hc1,hc2,hbl,hb0,hcw⟩:=hlf9.first
        have hld:=Qbo hcw;obtain⟨zw,hzw⟩:∃ z,Hid (Tryz.zeroCells93=z):=⟨_,Lib.hid rfl⟩;have hzwc:Tryz.zeroCells93=zw:=hzw.out;have hzws:zw.size=590:=by rw[← hzwc];exact Q7a
        have hzwn:¬ zw=#[]:=by intro h;rw[h] at hzws;simp at hzws
        have hg9:gq<w9.heap.size:=Y1;have hfz9:∀ j,w9.frozen? ⟨gq,j,none⟩=false:=fun j=>by rw[(by assumption:Below wr.heap.size wr w9).frozen (p:=⟨gq,j,none⟩) hgs];exact hfz j
        go_upto_region 9 with fail
        have hyo:=hok.2 y (by rw[hlv];exact List.mem_cons_self);refine Q1g (fun X=>Q1x w0 X M l ds ctx { k with stk:={ fm with left:=ys }::(fs'.map (·.1)).reverse } ρr fr mr (.slice (some ⟨gq,0,none⟩) (fs'.length+1) cap) (fs'++[({ fm with left:=ys },.slice (if cl=1 then some ⟨bl,ol,none⟩ else some ⟨bl,ol+590,none⟩) ys.length (cl-1))])∧(∀ j,j<590→X.cell? ⟨w9.heap.size,0+j,none⟩=some (Q7q y.at_ y.s j))∧w9.heap.size<X.heap.size) ⟨(hK9.keep Y14).setl ((hlf9.keep Y14).tail (fun hl=>if_neg Y1) Y1 Y1),fun j hj=>?_,by simp⟩ ?_
        · rw[Nat.zero_add,World.cell?_setCell_other _ _ _ _ (show (⟨gq,fs'.length*591+590,none⟩:Addr)≠⟨w9.heap.size,j,none⟩ from fun e=>absurd (congrArg Addr.block e) Y19)]
          exact Qes _ _ _ _ _ hzws hj
        clear hld hcw hfz9 hlc9 hK9 hlf9 hfz hzwn hzws hzwc hzw zw;rintro X ⟨hKX,hwX,hzX⟩;generalize (if cl=1 then some (⟨bl,ol,none⟩:Addr) else some ⟨bl,ol+590,none⟩)=pz at *;have hld:=Qbo hwX;clear hwX;obtain⟨b2,hb2e⟩:∃ b,(Co.enterK l ds ctx { k with stk:={ fm with left:=ys }::(fs'.map (·.1)).reverse } y).1=b:=⟨_,rfl⟩;obtain⟨k2,hk2e⟩:∃ b,(Co.enterK l ds ctx { k with stk:={ fm with left:=ys }::(fs'.map (·.1)).reverse } y).2=b:=⟨_,rfl⟩;have hA2:=(Co.allK_enter hsk hlv).symm.trans hA.out;rw[hb2e,hk2e] at hA2;have hO2:Co.OkW l k2:=by rw[← hk2e];exact (hO.out.left hsk hlv).enter hyo.1
        have hmu2:b2=true→Co.muK k2<Co.muK k:=fun e=>by rw[← hk2e];exact Co.mu_enter2 hsk hlv (by rw[hb2e];exact e)
        have HE2:=Lib.hid (And.intro hb2e hk2e);have HO2:=Lib.hid hO2;clear hb2e hk2e hO hA hO2;cases b2
        · have EE:=Lib.hid (show Co.lookK l ds ctx=(false,k2) from hA2.symm)
          clear hA2;go_wp2_with (go_at_call 28;refine Y81 ?_;intro w2 ρe fve fse hKe);go_ret;rw[EE.out];exact⟨rfl,_,_,_,_,_,hKe⟩
        · have HA2:=Lib.hid (show Co.allK l ds ctx n k2=Co.lookK l ds ctx from hA2)
          have hm2:=hmu2 rfl;clear hA2 hmu2;go_wp2_with (go_at_call 28;refine Y81 ?_;intro w2 ρe fve fse hKe)
          go_roundg n
          case measure=>omega
          case rel=>exact⟨_,_,_,_,_,_,hKe,HO2,Y1,HA2⟩
end Hk
namespace Hk
attribute [-go_sem] Qm
theorem Qr8 {w0 w:World}{M:Mb}{l:List In}{ds:List Df}{ctx:Int}(hb:Below w0.heap.size w0 w)(hI:Q14 w0 M.lb l)(hD:Q1s w0 M.p ds)(hc:Qg w M.g 10 (gF M l ds ctx (.slice none 0 0) Co.k0))(hj:Qi w M.jb l.length (Co.jointB l))(hn:Qg w M.nb (l.length*10) (Q9c fun _=>Nt.zero))(hm:Q5d w M.mb (.slice none 0 0) 0 (fun _=>.slice none 0 0))
 (h1:M.g≠M.jb) (h2:M.g≠M.mb) (h3:M.g≠M.nb) (h4:M.jb≠M.mb) (h5:M.jb≠M.nb) (h6:M.mb≠M.nb) (lg:M.g<w.heap.size) (lj:M.jb<w.heap.size) (ln:M.nb<w.heap.size) (bg:w0.heap.size≤M.g) (bj:w0.heap.size≤M.jb) (bm:w0.heap.size≤M.mb) (bn:w0.heap.size≤M.nb) :
 Q1x w0 w M l ds ctx Co.k0 (fun b=>if b=M.g then 1 else if b=M.jb then 2 else if b=M.mb then 3 else if b=M.nb then 4 else 0) (fun _=>.slice none 0 0) 0 (.slice none 0 0) [] where
 below:=hb
 ins:=hI
 defs:=hD
 cells:=hc
 joints:=hj
 notes:=hn
 kept:=hm
 rows:=fun i=>Qy
 row:=Qy
 stk:=rfl
 left:=fun q hq=>by cases hq
 room:=Nat.le_refl _
 steps:=Nat.zero_le _
 len:=fun i=>Nat.zero_le _
 rg:=by simp
 rj:=by simp[Ne.symm h1]
 rm:=by simp[Ne.symm h2,Ne.symm h4]
 rn:=by simp[Ne.symm h3,Ne.symm h5,Ne.symm h6]
 rf:=fun b hb=>by cases hb
 rk:=fun i b hb=>by cases hb
 lg:=lg
 lj:=lj
 ln:=ln
 bg:=bg
 bj:=bj
 bm:=bm
 bn:=bn
theorem Q5f {fn:Func}{p:Tmp}(h:fn.results=#[.cell p 36])(tmps:Array Value)(w:World)(g:Nat)(c a s:Int)(n:Value)(hp:tmps.getD p undef=.pointer (some ⟨g,0,none⟩))(a0:w.cell? ⟨g,0,none⟩=some (.int .i64 c))(a1:w.cell? ⟨g,1,none⟩=some (.int .i64 a))(a2:w.cell? ⟨g,2,none⟩=some (.int .i64 s))(a3:w.cell? ⟨g,3,none⟩=some n) :
 Sem.run Tryz.prog (results fn tmps) w=.ok (.agg #[.int .i64 c,.int .i64 a,.int .i64 s,n]) w:=by
 have hp':tmps[p]?.getD undef=.pointer (some ⟨g,0,none⟩):=Yew;simp only[results,h];simp[hp',a0,a1,a2,a3,go_sem]
theorem Qqx (n:Nat)(hn:n≤1000000):∀ w:World,(Instr.makeSlice 34 (.int .i64 (n:Int)) (.int .i64 (n:Int))).run Tryz.prog w=.ok (.slice (some ⟨w.heap.size,0,none⟩) n n) (w.alloc (.cells (madeCells #[.bool false,.bool false,.bool false,.int .u8 0,.int .u64 0,.int .u64 0,.int .u64 0,.int .u64 0,.int .i64 0,.int .i64 0] (n*10)) 107)):=fun w=>by
 have:=Qfy (P:=Tryz.prog) (t:=34) (e:=107) (sz:=10) (by_:=64) (zc:=#[.bool false,.bool false,.bool false,.int .u8 0,.int .u64 0,.int .u64 0,.int .u64 0,.int .u64 0,.int .i64 0,.int .i64 0]) Yc Yc n hn Y1 w;exact this
theorem Qft {w:World}{n:Nat}{e:TypeId}:Qg (w.alloc (.cells (madeCells #[.bool false,.bool false,.bool false,.int .u8 0,.int .u64 0,.int .u64 0,.int .u64 0,.int .u64 0,.int .i64 0,.int .i64 0] (n*10)) e)) w.heap.size (n*10) (Q9c fun _=>Nt.zero):=by
 refine⟨fun j hj=>?_,fun j=>Q2u j⟩;rw[Q3t hj];unfold Q9c;have h:j%10<10:=Nat.mod_lt _ Y1;show some ((#[_,_,_,_,_,_,_,_,_,_]:Array Value)[j%10]!)=_;generalize j%10=r at h;rcases r with _|_|_|_|_|_|_|_|_|_|r
 all_goals first|rfl|omega
def gZ (lb lc dn dc n jb mb:Nat)(p:Option Addr)(ctx:Int):Array Value:=#[(.slice (some ⟨lb,0,none⟩) n lc),(.slice p dn dc),(.int .i64 ctx),(.slice (some ⟨jb,0,none⟩) n n),(.map (some mb)),(.slice none 0 0),(.int .i64 0),(.int .i64 0),(.int .i64 0),(.slice none 0 0)]
def Q121 (gb lb lc dn dc n:Nat)(p:Option Addr)(ctx:Int)(l:List In)(W:World)(d:Nat→Bool)(ν:Nat→Nat×Nat)(w':World):Prop:=w'.cell? ⟨gb,0,none⟩=some (.slice p dn dc)∧w'.cell? ⟨gb,1,none⟩=some (.int .i64 ctx)∧Q14 w' lb l∧Below W.heap.size W w'∧(d 3=true→Qi w' (ν 3).1 l.length (Co.jointB l)∧W.heap.size≤(ν 3).1∧(ν 3).1<w'.heap.size)∧(d 4=true→Q5d w' (ν 4).1 (.slice none 0 0) 0 (fun _=>.slice none 0 0)∧W.heap.size≤(ν 4).1)∧(d 3=true→d 4=true→d 6=true→blk w' (ν 6).1=gZ lb lc dn dc n (ν 3).1 (ν 4).1 p ctx∧(∀ i,w'.frozen? ⟨(ν 6).1,i,none⟩=false)∧W.heap.size≤(ν 6).1∧(ν 6).1<w'.heap.size)∧(d 3=true→d 4=true→(ν 3).1≠(ν 4).1)∧(d 3=true→d 6=true→(ν 3).1≠(ν 6).1)∧(d 4=true→d 6=true→(ν 4).1≠(ν 6).1)
theorem Q5c {gb lb lc dn dc n:Nat}{p:Option Addr}{ctx:Int}{l:List In}{W:World}:KT (Q121 gb lb lc dn dc n p ctx l W):=by
 intro d ν w' w1 h hb;obtain⟨k0,k1,k2,k3,k4,k5,k6,k7,k8,k9⟩:=h;exact⟨Q0 hb k0,Q0 hb k1,k2.keep hb,Q8 k3 hb,fun h=>⟨(k4 h).1.keep (k4 h).2.2 hb,(k4 h).2.1,Nat.lt_of_lt_of_le (k4 h).2.2 hb.size⟩,fun h=>⟨(k5 h).1.keep hb,(k5 h).2⟩,fun h h2 h3=>⟨Q12 hb (k6 h h2 h3).1 (by simp[gZ]),fun i=>(hb.frozen (p:=⟨(ν 6).1,i,none⟩) (k6 h h2 h3).2.2.2).trans ((k6 h h2 h3).2.1 i),(k6 h h2 h3).2.2.1,Nat.lt_of_lt_of_le (k6 h h2 h3).2.2.2 hb.size⟩,k7,k8,k9⟩
theorem Qne {gb lb lc dn dc n:Nat}{p:Option Addr}{ctx:Int}{l:List In}{W:World}:MT (Q121 gb lb lc dn dc n p ctx l W) [3,4,6]:=by
 intro d d' ν w' hd h;unfold Q121 at *;simpa only[← hd 3 Y3,← hd 4 Y3,← hd 6 Y3] using h
theorem Quh {gb lb lc dn dc n:Nat}{p:Option Addr}{ctx:Int}{l:List In}{W:World}:NT (Q121 gb lb lc dn dc n p ctx l W) [3,4,6]:=by
 intro i hi d ν c w' hd h;unfold Q121 at *;exact Yp0
theorem Q82 (lb lc dc:Nat)(p:Option Addr)(l:List In)(ds:List Df)(ctx:Int)(w:World)(hI:Q14 w lb l)(hD:Q1s w p ds)(hlen:l.length≤100000)(hn:ds.length≤1000000000):Calls Tryz.prog 8 #[.slice (some ⟨lb,0,none⟩) l.length lc,.agg #[.slice p ds.length dc,.int .i64 ctx]] w (fun e w'=>∃ nv,e=.returned (.agg #[.int .i64 (Co.programV l ds ctx).code,.int .i64 (Co.programV l ds ctx).at_,.int .i64 (Co.programV l ds ctx).steps,nv])∧Q8d w' nv l.length (Co.programV l ds ctx)∧(∀ b,nv.ownBlock=some b→w.heap.size≤b)∧Below w.heap.size w w'):=by
 obtain⟨c0,e0,hce⟩:∃ c e,Co.check l=(c,e):=⟨_,_,rfl⟩;have hge:Co.good l=(e0==0):=by unfold Co.good;rw[hce]
 have HE:=Lib.hid hce;clear hce;cases hg:(e0==0)
 · have hgd:Co.good l=false:=hge.trans hg
   have hne:(e0 != 0)=true:=Yhc;clear hge;have EE:=Lib.hid (show Co.programV l ds ctx=⟨1,0,0,false,fun _=>Nt.zero⟩ by unfold Co.programV;rw[if_neg (by simp[*])]);clear hgd;go_enter Tryz.func8,Tryz.ntmps8;go_wp2_with (go_at_call 10;refine Y82 ?_;intro w1 hb1 hc1 hf1 hz1);exact Ymq
 · have hgd:Co.good l=true:=hge.trans hg
   have hne:(e0 != 0)=false:=Yhc;clear hge;cases hv:Co.givenB ds ctx
   · have HV:=Lib.hid hv
     have EE:=Lib.hid (show Co.programV l ds ctx=⟨1,0,0,false,fun _=>Nt.zero⟩ by unfold Co.programV;rw[if_neg (by simp[*])]);clear hgd hv;go_enter Tryz.func8,Tryz.ntmps8;go_wp2_with ((with_reducible apply ic);first|(refine Y82 ?_;intro w1 hb1 hc1 hf1 hz1)|(refine Y83 ?_;intro w2 hb2 hc2 hf2 hz2));exact Ymq
   · have hEV:Co.programV l ds ctx=⟨(Co.lookK l ds ctx).2.code,(Co.lookK l ds ctx).2.vat,(Co.lookK l ds ctx).2.steps,(Co.lookK l ds ctx).1,(Co.lookK l ds ctx).2.notes⟩:=by unfold Co.programV;rw[hgd,hv];rfl
     have HV:=Lib.hid hv;have hmk:=Qqx l.length Y1;go_enter Tryz.func8,Tryz.ntmps8
     go_upto_region 4 with ((with_reducible apply ic);first|(refine Y82 ?_;intro w1 hb1 hc1 hf1 hz1)|(refine Y83 ?_;intro w2 hb2 hc2 hf2 hz2))
     refine Q1g (fun W=>W.cell? ⟨w.heap.size,0,none⟩=some (.slice p ds.length dc)∧W.cell? ⟨w.heap.size,1,none⟩=some (.int .i64 ctx)∧W.cell? ⟨w.heap.size+1,0,none⟩=some (.int .i64 0)∧W.cell? ⟨w.heap.size+1,1,none⟩=some (.int .i64 0)∧W.cell? ⟨w.heap.size+1,2,none⟩=some (.int .i64 0)∧W.cell? ⟨w.heap.size+1,3,none⟩=some (.slice none 0 0)∧(∀ j,W.frozen? ⟨w.heap.size+1,j,none⟩=false)∧w.heap.size+2≤W.heap.size∧Below w.heap.size w W) ⟨Yhd,Yhd,Yhd,Yhd,Yhd,Yhd,fun j=>Yhd,Y15,Y14⟩ ?_;clear hb1 hc1 hf1 hz1 hb2 hc2 hf2 hz2;rintro W ⟨hg0,hg1,hv0,hv1,hv2,hv3,hvf,hzW,hBW⟩;have hIW:=hI.keep hBW
     refine Q2 (Q121 w.heap.size lb lc ds.length dc l.length p ctx l W) [3,4,6] [3,4,6] (fun i c=>bif i==3 then .slice (some ⟨c.1,0,none⟩) l.length l.length else bif i==4 then .map (some c.1) else .pointer (some ⟨c.1,0,none⟩)) rfl Yc ?_ (fun d d' ν w'=>Qne d d' ν w') (fun d ν w' w1=>Q5c d ν w' w1) (fun i hi d ν c w'=>Quh i hi d ν c w') ?_
     · intro d ν hd
       refine⟨hg0,hg1,hIW,Y14,?_,?_,?_,?_,?_,?_⟩
       all_goals (intro h;try intro h2;try intro h3)
       all_goals first|(rw[hd _ Y0] at h;cases h)|(rw[hd _ Y0] at h2;cases h2)
     apply Exists.intro;refine⟨fun ν=>?_,?_,?_⟩
     · (try simp only[List.append])
       iterate 3 refine Ye9 ?_
       (refine Q2k Y0 Yc (fun d w' hd hC=>?_) ?_
        · have hC0:=hC
          have n6:d 6=false:=(by cases hq:d 6 with|false=>rfl|true=>exact absurd (hd.shut 5 3 Yd (hd.shut 6 5 Yd hq)) Y1a);have n3:=hd.open_;obtain⟨k0,k1,k2,k3,k4,k5,k6,k7,k8,k9⟩:=hC0;refine⟨15,_,Yez,?_⟩;refine (Qk3 lb lc l w' k2 hlen).mono ?_;rintro e1 w1 ⟨rfl,hB,hz,hb1⟩;refine⟨(w'.heap.size,0),rfl,?_⟩;have hsz:=k3.size;have hm4:=k5;have hC1:=Q5c _ _ _ _ hC hb1;obtain⟨k0,k1,k2,k3,k4,k5,k6,k7,k8,k9⟩:=hC1;refine⟨k0,k1,k2,k3,fun _=>⟨by simpa[Qo] using hB,Yhu,by simp[Qo];omega⟩,k5,fun h h2 h3=>?_,fun h h2=>?_,fun h h2=>?_,k9⟩
          · have h':d 6=true:=h3
            rw[n6] at h';cases h'
          · have h':d 4=true:=h2
            have h1:=(hm4 h').1.lt;simp[Qo];omega
          · have h':d 6=true:=h2
            rw[n6] at h';cases h'
        simp only[Act.put,List.setIfInBounds_toArray,List.set_cons_succ,List.set_cons_zero,Nat.reduceAdd,Nat.zero_add,Nat.reduceBEq,beq_self_eq_true,cond_true,cond_false])
       (refine Qq Y0 Yc (fun d w' hd hC=>?_) ?_
        · have n6:d 6=false:=(by cases hq:d 6 with|false=>rfl|true=>exact absurd (hd.shut 5 4 Yd (hd.shut 6 5 Yd hq)) Y1a)
          have hb:=Below.alloc (Below.refl _ w') (Nat.le_refl _) (.map #[] 0);refine⟨(w'.heap.size,0),w'.alloc (.map #[] 0),Yez,?_⟩;have hC0:=hC;obtain⟨-,-,-,j3,j4,-,-,-,-,-⟩:=hC0;have hC1:=Q5c _ _ _ _ hC hb;have hsz:=j3.size;obtain⟨k0,k1,k2,k3,k4,k5,k6,k7,k8,k9⟩:=hC1;refine⟨k0,k1,k2,k3,k4,fun _=>⟨by simpa[Qo] using Q5d.made w' (.slice none 0 0),Yhu⟩,fun h h2 h3=>?_,fun h h2=>?_,k8,fun h h2=>?_⟩
          · have h':d 6=true:=h3
            rw[n6] at h';cases h'
          · have h':d 3=true:=h
            have h1:=(j4 h').2.2;simp[Qo];omega
          · have h':d 6=true:=h2
            rw[n6] at h';cases h'
        simp only[Act.put,List.setIfInBounds_toArray,List.set_cons_succ,List.set_cons_zero,Nat.reduceAdd,Nat.zero_add,Nat.reduceBEq,beq_self_eq_true,cond_true,cond_false])
       iterate 1 refine Yea ?_
       (refine Qq Y0 Yc (fun d w' hd hC=>?_) ?_
        · have q3:=hd.shut 5 3 Yd (hd.ahead 5 Yd)
          have q4:=hd.shut 5 4 Yd (hd.ahead 5 Yd);have hb:=Below.alloc (Below.refl _ w') (Nat.le_refl _) (.cells (gZ lb lc ds.length dc l.length (ν 3).1 (ν 4).1 p ctx) 60);refine⟨(w'.heap.size,0),w'.alloc (.cells (gZ lb lc ds.length dc l.length (ν 3).1 (ν 4).1 p ctx) 60),by (unfold gZ;go_simp<;>rfl),?_⟩;have hC0:=hC;obtain⟨-,-,-,j3,j4,j5,-,-,-,-⟩:=hC0;have hC1:=Q5c _ _ _ _ hC hb;have hsz:=j3.size;have h31:=(j4 q3).2.2;have h41:=(j5 q4).1.lt;obtain⟨k0,k1,k2,k3,k4,k5,k6,k7,k8,k9⟩:=hC1;refine⟨k0,k1,k2,k3,k4,k5,fun h h2 h3=>⟨Yg8,fun i=>Yg8,Yhu,by simp[Qo]⟩,k7,fun h h2=>?_,fun h h2=>?_⟩
          · simp[Qo];omega
          · simp[Qo];omega
        simp only[Act.put,List.setIfInBounds_toArray,List.set_cons_succ,List.set_cons_zero,Nat.reduceAdd,Nat.zero_add,Nat.reduceBEq,beq_self_eq_true,cond_true,cond_false])
       iterate 1 refine Yea ?_
       exact rfl
     · exact Yo9
     · intro ν w8 d hd hC
       obtain⟨k0,k1,k2,k3,k4,k5,k6,k7,k8,k9⟩:=hC;have q3:=hd 3 Y0;have q4:=hd 4 Y0;have q6:=hd 6 Y0;obtain⟨hJB,hJ1,hJ2⟩:=k4 q3;obtain⟨hMP,hM1⟩:=k5 q4;obtain⟨hGB,hGF,hG1,hG2⟩:=k6 q3 q4 q6;have n34:=k7 q3 q4;have n36:=k8 q3 q6;have n46:=k9 q4 q6;have hB8:Below W.heap.size W w8:=k3;have hIX:=k2;clear k0 k1 k2 k3 k4 k5 k6 k7 k8 k9 q3 q4 q6 hd;generalize (ν 3).1=jb at *;generalize (ν 4).1=mb at *;generalize (ν 6).1=g at *;have hDW:=hD.keep hBW;obtain⟨M,rfl,rfl,rfl,rfl,rfl,rfl,rfl,hjc,hnb,hnc,hST,hFT⟩:∃ M:Mb,M.g=g∧M.jb=jb∧M.mb=mb∧M.lb=lb∧M.lc=lc∧M.p=p∧M.dc=dc∧M.jc=l.length∧M.nb=w8.heap.size∧M.nc=l.length∧M.ST=90∧M.FT=97:=⟨⟨g,lb,lc,p,dc,jb,l.length,mb,w8.heap.size,l.length,90,97⟩,rfl,rfl,rfl,rfl,rfl,rfl,rfl,rfl,rfl,rfl,rfl,rfl⟩
       have hc8:Qg w8 M.g 10 (fun j=>if j=9 then .slice none 0 0 else gF M l ds ctx (.slice none 0 0) Co.k0 j):=⟨fun j hj=>by rw[Q1b,hGB];unfold gZ gF;rcases j with _|_|_|_|_|_|_|_|_|_|j<;>first|omega|(simp[hjc,Co.k0];done),hGF⟩;have g9:w8.cell? ⟨M.g,9,none⟩=some (.slice none 0 0):=hc8.1 9 Y1;have hM3:=hMP.lt;have hM4:w8.heap.size≤M.nb:=Y1
       go_upto_region 6 with fail
       refine Q1g (fun X=>Q1x W X M l ds ctx Co.k0 (fun b=>if b=M.g then 1 else if b=M.jb then 2 else if b=M.mb then 3 else if b=M.nb then 4 else 0) (fun _=>.slice none 0 0) 0 (.slice none 0 0) []) (Qr8 Y14 hIW hDW ?_ ?_ ?_ ?_ (Ne.symm n36) (Ne.symm n46) Y1 n34 Y1 Y1 ?_ ?_ ?_ hG1 hJ1 hM1 (by have:=hB8.size;omega)) ?_
       · exact (hc8.set (f':=gF M l ds ctx (.slice none 0 0) Co.k0) (k:=9) Y1 (.slice (some ⟨w8.heap.size,0,none⟩) l.length l.length) (fun j hj=>if e:j=9 then (by subst e;simp[gF,hnb,hnc]) else (by simp[e]))).keep (by simpa using hG2) (Below.alloc (Below.refl _ _) (Nat.le_refl _) _)
       · exact (Qi.other hJB n36).keep (by simpa using hJ2) (Below.alloc (Below.refl _ _) (Nat.le_refl _) _)
       · have h2:=Qft (w:=w8.setCell ⟨M.g,9,none⟩ (.slice (some ⟨w8.heap.size,0,none⟩) l.length l.length)) (n:=l.length) (e:=107)
         rw[World.size_setCell] at h2;rw[hnb];exact h2
       · exact (hMP.setCell _ (Ne.symm n46)).keep (Below.alloc (Below.refl _ _) (Nat.le_refl _) _)
       · simp;omega
       · simp;omega
       · simp;omega
       rintro X hKX;clear hJB hMP hGB hGF hc8 g9;obtain⟨b0,hl1⟩:∃ b,(Co.lookK l ds ctx).1=b:=⟨_,rfl⟩;obtain⟨kk,hl2⟩:∃ b,(Co.lookK l ds ctx).2=b:=⟨_,rfl⟩;have HL:=Lib.hid (And.intro hl1 hl2);cases b0
       · skip
         have EV:=Lib.hid (show Co.programV l ds ctx=⟨kk.code,kk.vat,kk.steps,false,kk.notes⟩ by rw[hEV,hl1,hl2]);clear hEV hl1 hl2
         go_upto_region 7 with (first|(go_at_call 16;(with_reducible refine (Qv2 W M l ds ctx _ _ _ _ _ _ (hKX.keep Y14) hgd hn hST hFT).mono ?_);rw[HL.out.1,HL.out.2];rintro e9 w9 ⟨rfl,ρ',f',m',fv',fs',hKE⟩))
         refine Yvx ?_;intro hB9 g6 g7 g8 g9 u0 u1 u2 u3 uf hfg;have zg9:=hKE.lg;have zn9:=hKE.ln;have bg9:=hKE.bg;have bn9:=hKE.bn;have hns:=hKE.notes;clear hKX;go_wp2;rw[EV.out];refine bodyPost_ret (Q5f (fn:=Tryz.f8) rfl _ _ (w.heap.size+1) kk.code kk.vat kk.steps (.slice none 0 0) rfl ?_ ?_ ?_ ?_) rfl ⟨(.slice none 0 0),rfl,⟨fun h=>(by cases h),fun _=>rfl⟩,fun b hb=>(by cases hb),Y14⟩
         all_goals (simp (maxDischargeDepth:=12) [*,go_sem,↓IntWalk.iteOmega];done)
       · skip
         have EV:=Lib.hid (show Co.programV l ds ctx=⟨kk.code,kk.vat,kk.steps,true,kk.notes⟩ by rw[hEV,hl1,hl2]);clear hEV hl1 hl2
         go_upto_region 8 with (first|(go_at_call 16;(with_reducible refine (Qv2 W M l ds ctx _ _ _ _ _ _ (hKX.keep Y14) hgd hn hST hFT).mono ?_);rw[HL.out.1,HL.out.2];rintro e9 w9 ⟨rfl,ρ',f',m',fv',fs',hKE⟩))
         refine Yvx ?_;intro hB9 g6 g7 g8 g9 u0 u1 u2 u3 uf hfg;have zg9:=hKE.lg;have zn9:=hKE.ln;have bg9:=hKE.bg;have bn9:=hKE.bn;have hns:=hKE.notes;clear hKX;go_wp2;rw[EV.out];refine bodyPost_ret (Q5f (fn:=Tryz.f8) rfl _ _ (w.heap.size+1) kk.code kk.vat kk.steps (.slice (some ⟨M.nb,0,none⟩) l.length M.nc) rfl ?_ ?_ ?_ ?_) rfl ⟨(.slice (some ⟨M.nb,0,none⟩) l.length M.nc),rfl,⟨fun _=>⟨M.nb,M.nc,rfl,by simpa using zn9,fun j hj=>?_⟩,fun h=>(by cases h)⟩,fun b hb=>(by have e:M.nb=b:=Option.some.inj hb;omega),Y14⟩
         case refine_5=>exact ((((hns.other Y1).other Y1).other Y1).other Y1).1 j hj
         all_goals (simp (maxDischargeDepth:=12) [*,go_sem,↓IntWalk.iteOmega];done)
end Hk
namespace Hk
theorem Qdk (b c:Nat)(l:List In)(w:World)(hI:Q14 w b l)(hL:l.length≤100000):Calls Tryz.prog 76 #[.slice (some ⟨b,0,none⟩) l.length c] w (RB.a w (.bool (Co.good l))):=by
 have EG:=Lib.hid (show Co.good l=((Co.check l).2==0) from rfl);go_enter Tryz.func76,Tryz.ntmps76;exact Yq1
theorem Qdb (b c:Nat)(l:List In)(w:World)(hI:Q14 w b l)(hL:l.length≤100000):Calls Tryz.prog 56 #[.slice (some ⟨b,0,none⟩) l.length c] w (RB.a w (.bool (Co.good l))):=by
 have EG:=Lib.hid (show Co.good l=((Co.check l).2==0) from rfl);go_enter Tryz.func56,Tryz.ntmps56;exact Yq1
theorem Q9k (b c:Nat)(l:List In)(k:Nat)(w:World)(hI:Q14 w b l)(hL:l.length≤100000)(hg:Co.good l=true)(hk:k<l.length):Calls Tryz.prog 77 #[.slice (some ⟨b,0,none⟩) l.length c,.int .i64 k] w (RB.a w (.bool (Co.start l k))):=by
 have hck:=(Co.good_facts hg).2.2.2.2;have hbw:=hI.lt Y1;cases hst:Co.start l k
 all_goals
  go_enter Tryz.func77,Tryz.ntmps77;go_wp2_with ((with_reducible apply ic);first|(go_at_call 76;(with_reducible refine (Qdk _ _ _ _ (hI.keep Yb) hL).mono ?_);rw[hg];refine Y2t ?_;intro wg hbg hcg hfg hzg)|(refine Y87 ?_;intro ws hBs hzs hbs hbk hcs hfs hzz));go_ret;exact⟨rfl,Yb⟩
theorem Qk1 (b c:Nat)(l:List In)(k:Nat)(w:World)(hI:Q14 w b l)(hL:l.length≤100000)(hg:Co.good l=true)(hk:k<l.length):Calls Tryz.prog 106 #[.slice (some ⟨b,0,none⟩) l.length c,.int .i64 k] w (RB.a w (.bool (Co.start l k))):=by
 have hck:=(Co.good_facts hg).2.2.2.2;have hbw:=hI.lt Y1;cases hst:Co.start l k
 all_goals
  go_enter Tryz.func106,Tryz.ntmps106;go_wp2_with ((with_reducible apply ic);first|(go_at_call 10;(with_reducible refine (Q31 _ _ _ _ (hI.keep Yb) hL).mono ?_);rw[hck];refine Y2t ?_;intro wg hbg hcg hfg hzg)|(refine Y87 ?_;intro ws hBs hzs hbs hbk hcs hfs hzz));go_ret;exact⟨rfl,Yb⟩
attribute [local go_sem] Q8i Q2r Q3c
namespace Co
def short (n:BitVec 64):Bool:=n==(n.setWidth 32).signExtend 64
end Co
theorem Qby (b c:Nat)(l:List In)(k:Nat)(w:World)(hI:Q14 w b l)(hL:l.length≤100000)(hk:k<l.length):Calls Tryz.prog 40 #[.slice (some ⟨b,0,none⟩) l.length c,.int .i64 k] w (RB.a w (.int .u8 (Co.kindAt l k))):=by
 obtain⟨c0,c1,c2,c3,c4⟩:=hI k hk;have hbw:=hI.lt (Nat.lt_of_le_of_lt (Nat.zero_le _) hk);have ex:l.getD k In.zero=l[k]:=Yf2;unfold Co.kindAt;rw[ex];clear ex;generalize l[k]=x at *;go_enter Tryz.func40,Tryz.ntmps40;go_wp2_with (go_at_call 20;refine Y2p ?_;intro w1 hb1 hc1 hf1 hz1);go_ret;exact⟨rfl,Yb⟩
theorem wz (p:BitVec 32):BitVec.ofInt 64 (wrap64 (Z3 p))=p.signExtend 64:=by
 have h:=Q7n p;unfold I32 at h;rw[IntWalk.wrap64_in _ (by unfold Z3;omega)];exact Q5g p
theorem Qrm (n:BitVec 64)(w:World):Calls Tryz.prog 61 #[.int .u64 (N n)] w (RB.a w (.bool (Co.short n))):=by
 go_enter Tryz.func61,Tryz.ntmps61;go_wp2;go_ret;exact⟨by simp[Co.short,go_sem,Q8i,Q2r,Q3c,wz],Yb⟩
theorem Q136 (x:In)(d:Int)(w:World)(hd1:-1000000≤d)(hd2:d≤1000000):Calls Tryz.prog 59 #[x,.int .i64 d] w (RB.a w (.tuple #[(Co.hopX x d),.bool (Co.hopB x d)])):=by
 have e32:I32 (BitVec.ofInt 32 d)=d:=by rw[← Q40,IntKind.wrap_i32];omega
 have e16:IntKind.wrap .i16 d=I16 (BitVec.ofInt 16 d):=Q4h d;have H32:=Lib.hid e32;clear e32;cases h6:(x.op==6#8)
 all_goals
  go_enter Tryz.func59,Tryz.ntmps59;go_wp2
  all_goals have e32:=H32.out
  all_goals
   refine bodyPost_ret (Q39 (fn:=Tryz.f59) rfl _ _ (w.heap.size+1) (Co.hopX x d) (.bool (Co.hopB x d)) rfl ?_ ?_ ?_ ?_ ?_ ?_) rfl ⟨rfl,Yb⟩
   all_goals simp (maxDischargeDepth:=12) [*,go_sem,↓IntWalk.iteOmega,Qb,Co.hopX,Co.hopB]
   all_goals (intros;omega)
end Hk
