/- A part of TopTwice; no condition. -/
import Derived.Test.YtkgmipfmphlpgaaGreatK44
import Derived.Test.YtkgmipfmphlpgaaGreatK42
import Derived.Laws.BytesArg
open Go Go.RowKit Go.Proofs
set_option linter.all false
set_option maxRecDepth 100000
set_option maxHeartbeats 20000000
namespace Hk
theorem Qk2 (b c:Nat)(l:List In)(k:Nat)(w:World)(hI:Q14 w b l)(hg:Co.good l=true)(hk:k<l.length):Calls Tryz.prog 83 #[.slice (some ⟨b,0,none⟩) l.length c,.int .i64 k] w (RB.a w (.int .u16 (N16 (Co.wrS l k)))):=by
 refine Yvm ?_;intro hL hbw;have hG:=Lib.hid hg;clear hg;obtain⟨c0,c1,c2,c3,c4⟩:=hI k hk;have ex:l.getD k In.zero=l[k]:=Yf2;have EW:Co.wrS l k=if Co.start l k=true then Co.writesB l[k] else 0#16:=by unfold Co.wrS;rw[ex]
 clear ex;generalize l[k]=x at *;cases hs:Co.start l k
 · rw[hs] at EW
   have EV:=Lib.hid (EW.trans rfl:Co.wrS l k=0#16);exact Ynd
 · rw[hs] at EW
   have EV:=Lib.hid (EW.trans rfl:Co.wrS l k=Co.writesB x);exact Ynd
theorem Qy0 (b c:Nat)(l:List In)(w:World)(hI:Q14 w b l)(hg:Co.good l=true):Calls Tryz.prog 64 #[.slice (some ⟨b,0,none⟩) l.length c] w fun e w'=>∃ g,e=.returned (.slice (some ⟨g,0,none⟩) l.length l.length)∧Qg w' g l.length (fun j=>.bool (Co.idleB l j))∧w.heap.size≤g∧g<w'.heap.size∧Below w.heap.size w w':=by
 have hL:l.length≤100000:=Y20;have hbw:=hI.lt Y20;have hmk:=Q66 l.length Y1;have hG:=Lib.hid hg;clear hg;go_enter Tryz.func64,Tryz.ntmps64;go_wp2_with (go_at_call 82;refine Ya8 ?_;intro wB gA gB hA0 hB0 hzA hzB hbB hsB);refine Q1g (fun W=>Hid (Qg W wB.heap.size l.length (Q7r (fun j=>.bool (Co.idleB l j)) (.bool false) 0))∧Hid (Qg W gB l.length (fun j=>.int .u16 (N16 ((Co.bothL l).2 j))))∧wB.heap.size<W.heap.size∧Below w.heap.size w W∧gB<wB.heap.size) ⟨Lib.hid (Qg.made.congr (fun j hj=>rfl)),Lib.hid (hB0.keep hzB Yb),by simp,Yb,hzB⟩ ?_;rintro W ⟨kI,kB,kz,kW,hzB⟩;clear hmk hA0 hB0 hzA hbB;generalize wB.heap.size=gI at *
 go_loopw [20] (fun s20 wr=>∃ k:Nat,k≤l.length∧s20=.int .i64 k∧Hid (Qg wr gI l.length (Q7r (fun j=>.bool (Co.idleB l j)) (.bool false) k))∧Hid (Qg wr gB l.length (fun j=>.int .u16 (N16 ((Co.bothL l).2 j))))∧gI<wr.heap.size∧Below w.heap.size w wr) (fun s20 _=>l.length-(intOf s20).toNat)
 case atStart =>
  exact⟨0,Y1,rfl,kI,kB,kz,kW⟩
 case round =>
  clear kI kB kz kW;obtain⟨k,hk,rfl,kI,kB,kz,hB⟩:=hrel;have hzz:=hB.size;by_cases hlt:k<l.length
  · obtain⟨c0,c1,c2,c3,c4⟩:=(hI.keep hB) k hlt
    have ex:l.getD k In.zero=l[k]:=Yf6;have hqi:=kI.out.1 k hlt;have hqf:=kI.out.2;have hqb:=kB.out.1 k hlt;have EI:Co.idleB l k=(!((Co.what l[k]).kind==11)&&!(Co.wrS l k==0#16)&&(Co.wrS l k &&& (Co.bothL l).2 k==0#16)):=by unfold Co.idleB;rw[ex]
    clear ex;generalize l[k]=x at *;have n11:((Co.what x).kind != 11) = !((Co.what x).kind==11):=rfl;generalize hc11:((Co.what x).kind==11)=d1 at EI n11;generalize hc12:(Co.wrS l k==0#16)=d2 at EI;generalize hc13:(Co.wrS l k &&& (Co.bothL l).2 k==0#16)=d3 at EI;have EH:=Lib.hid EI;clear EI;cases d1<;>cases d2<;>cases d3
    all_goals
     go_wp2_with ((with_reducible apply ic);first|(refine Y2p ?_;intro w1 hb1 hc1 hf1 hz1)|(go_at_call 83;(with_reducible refine (Qk2 _ _ _ _ _ (hI.keep Yb) hG.out hlt).mono ?_);refine Y2c ?_;intro w2 hb2 hc2 hf2 hz2))
     go_roundw
     case rel=>exact⟨k+1,Y1,Yf1,Lib.hid ((kI.out.keep kz Yb).put hlt _ (by show Value.bool (Co.idleB l k)=_;rw[EH.out];rfl)),Lib.hid ((kB.out.keep Y1 Yb).other Y1),Y15,Yg⟩
     case measure=>simp[intOf];omega
  · obtain rfl:k=l.length:=by omega
    go_wp2;go_ret;exact⟨gI,rfl,kI.out.full,Y1,kz,hB⟩
theorem Qkb (b c:Nat)(l:List In)(w:World)(hI:Q14 w b l)(hg:Co.good l=true)(hk:Co.start l 0=true):Calls Tryz.prog 63 #[.slice (some ⟨b,0,none⟩) l.length c,.int .i64 0] w fun e w'=>∃ g,e=.returned (.slice (some ⟨g,0,none⟩) l.length l.length)∧Qi w' g l.length (Co.reach l 0)∧w.heap.size≤g∧g<w'.heap.size∧Below w.heap.size w w':=Qrl b c l 0 w hI hg hk
theorem Qze (b c:Nat)(l:List In)(w:World)(hI:Q14 w b l)(hg:Co.good l=true):Calls Tryz.prog 43 #[.slice (some ⟨b,0,none⟩) l.length c] w fun e w'=>∃ g,e=.returned (.slice (some ⟨g,0,none⟩) l.length l.length)∧Qg w' g l.length (fun j=>.bool (Co.goB l j))∧w.heap.size≤g∧g<w'.heap.size∧Below w.heap.size w w':=by
 refine Yvm ?_;intro hL hbw;obtain⟨⟨hL1,hL2⟩,_,_,_,hck⟩:=Co.good_facts hg;have H0:=Lib.hid (Co.start_zero (l:=l) Y1);have hG:=Lib.hid hg;clear hg;have HK:=Lib.hid hck;clear hck;go_enter Tryz.func43,Tryz.ntmps43;go_wp2_with ((with_reducible apply ic);first|(refine Y8j ?_;intro wC hbC hzC)|(go_at_call 17;(with_reducible refine (Q9r _ _ _ _ (hI.keep Yb) hL).mono ?_);refine Yaa ?_;intro ws gS hBs hgS hzs hbs hss)|(go_at_call 63;(with_reducible refine (Qkb _ _ _ _ (hI.keep Yb) hG.out H0.out).mono ?_);refine Yaa ?_;intro wR gR hBr hgR hzR hbR hsR)|(go_at_call 64;(with_reducible refine (Qy0 _ _ _ _ (hI.keep Yb) hG.out).mono ?_);refine Yaa ?_;intro wI gI hBi hgI hzI hbI hsI))
 refine Q1g (fun W=>Hid (Qg W gS l.length (fun j=>.bool (if j<0 then Co.goB l j else Co.start l j)))∧Hid (Qi W gR l.length (Co.reach l 0))∧Hid (Qg W gI l.length (fun j=>.bool (Co.idleB l j)))∧gI<W.heap.size∧Below w.heap.size w W∧gS<gR∧gR<gI∧w.heap.size≤gS) ⟨Lib.hid (((Qi.cells.1 hBs).keep hzs Yb).congr (fun j hj=>by simp)),Lib.hid (hBr.keep hzR hbI),Lib.hid hBi,hzI,Yb,Y1,Y1,Y1⟩ ?_;rintro W ⟨kS,kR,kI,kz,kW,hSR,hRI,hwS⟩;clear hBs hBr hBi hbs hbR hbI hbC hzs hzR hzI hgS hgR hgI hss hsR hsI hzC
 go_loopw [24] (fun s24 wr=>∃ k:Nat,k≤l.length∧s24=.int .i64 k∧Hid (Qg wr gS l.length (fun j=>.bool (if j<k then Co.goB l j else Co.start l j)))∧Hid (Qi wr gR l.length (Co.reach l 0))∧Hid (Qg wr gI l.length (fun j=>.bool (Co.idleB l j)))∧gI<wr.heap.size∧Below w.heap.size w wr) (fun s24 _=>l.length-(intOf s24).toNat)
 case atStart =>
  exact⟨0,Y1,rfl,kS,kR,kI,kz,kW⟩
 case round =>
  clear kS kR kI kz kW;obtain⟨k,hk,rfl,kS,kR,kI,kz,hB⟩:=hrel;have hzz:=hB.size;by_cases hlt:k<l.length
  · have hqs:wr.cell? ⟨gS,k,none⟩=some (.bool (Co.start l k)):=by have h:=kS.out.1 k hlt;simpa using h
    have hqf:=kS.out.2;have hqr:wr.cell? ⟨gR,k,none⟩=some (.bool (Co.reach l 0 k)):=kR.out.1 k hlt;have hqi:wr.cell? ⟨gI,k,none⟩=some (.bool (Co.idleB l k)):=kI.out.1 k hlt;have EI:Co.goB l k=(Co.start l k&&(Co.idleB l k||!Co.reach l 0 k)):=rfl
    have SETk:∀ v:Bool,Co.goB l k=v→Qg (wr.setCell ⟨gS,k,none⟩ (.bool v)) gS l.length (fun j=>.bool (if j<k+1 then Co.goB l j else Co.start l j)):=fun v hv=>kS.out.set hlt _ (fun j hj=>by
     by_cases e:j=k
     · subst e;rw[if_pos rfl,if_pos Y1,hv]
     · rw[if_neg e]
       by_cases h:j<k
       · rw[if_pos h,if_pos Y1]
       · rw[if_neg h,if_neg Y1])
    have HSET:=Lib.hid SETk;clear SETk;generalize hd1:Co.start l k=d1 at EI hqs;generalize hd2:Co.idleB l k=d2 at EI hqi;generalize hd3:Co.reach l 0 k=d3 at EI hqr;have EH:=Lib.hid EI;clear EI hd1 hd2 hd3;cases d1<;>cases d2<;>cases d3
    all_goals
     go_wp2
     go_roundw
     case rel=>exact⟨k+1,Y1,Yf1,Lib.hid (HSET.out _ EH.out),Lib.hid (kR.out.other Y1),Lib.hid (kI.out.other Y1),Y15,Yg⟩
     case measure=>simp[intOf];omega
  · obtain rfl:k=l.length:=by omega
    go_wp2;go_ret;exact⟨gS,rfl,kS.out.congr (fun j hj=>by rw[if_pos hj]),Y1,Y1,hB⟩
theorem Qz3:(Tryz.prog.info? 109).map (fun i=>(i.zero,i.size,i.bytes))=some (some (.agg #[.int .u8 0,.int .u8 0,.int .u8 0,.int .u8 0,.int .i16 0,.int .i32 0,.int .i64 0]),7,24):=Yc
theorem Qsd (b c:Nat)(l:List In)(w:World)(hI:Q14 w b l)(hg:Co.good l=true):Calls Tryz.prog 25 #[.slice (some ⟨b,0,none⟩) l.length c] w fun e w'=>∃ v,e=.returned v∧w'.ownsRow w.heap.size 109 7 v l.length (Qhj (Co.deadEds l l.length))∧Below w.heap.size w w':=by
 have hL:l.length≤100000:=Y20;have hbw:=hI.lt Y20;obtain⟨i0,hi0,hj0,hj1,hj2⟩:=info_parts Qz3;have hL2:=(Co.good_facts hg).1.2;have hG:=Lib.hid hg;clear hg;go_enter Tryz.func25,Tryz.ntmps25;go_wp2_with (go_at_call 43;refine Yaf ?_;intro wG gG hBg hgG hzG hbG);have hsG:=hbG.size
 go_loopw [3,10] (fun s3 s10 wr=>∃ k:Nat,k≤l.length∧s10=.int .i64 k∧wr.ownsRow w.heap.size 109 7 s3 k (Qhj (Co.deadEds l k))∧(∀ q,s3.ownBlock=some q→gG<q)∧Hid (Qg wr gG l.length (fun j=>.bool (Co.goB l j)))∧gG<wr.heap.size∧Below w.heap.size w wr) (fun _ s10 _=>l.length-(intOf s10).toNat)
 case atStart =>
  exact⟨0,Y1,rfl,Qy,(fun q hq=>by cases hq),Lib.hid hBg,hzG,hbG⟩
 case round =>
  clear hBg hzG hbG;obtain⟨k,hk,rfl,hown,hoq,kG,kz,hB⟩:=hrel;have hzz:=hB.size;by_cases hlt:k<l.length
  · have hqg:wr.cell? ⟨gG,k,none⟩=some (.bool (Co.goB l k)):=kG.out.1 k hlt
    have ED:Co.deadEd l k=if Co.goB l k=true then ⟨1#8,In.zero,0⟩ else Ed.none:=rfl
    have ES:=Lib.hid (Co.deadEds_succ l k);cases hd:Co.goB l k
    · rw[hd] at hqg ED
      have ED2:=Lib.hid (ED.trans rfl:Co.deadEd l k=Ed.none);clear ED
      go_wp2_with (at_builtin;(refine Q18 _ rfl (.tmp 15) (.tmp 18) _ rfl w.heap.size 109 i0 _ 7 24 Tryz.underlying71 hi0 hj0 hj1 hj2 rfl Y1 _ k (Qhj (Co.deadEds l k)) rfl (Qd hown Yb) _ 1 1 (Ed.cells (Ed.none)) rfl rfl (fun j u hu=>by rw[Q7k];match j,hu with|0,hu=>(simp[Ed.cells] at hu;subst hu;simp[*,go_sem];try rfl)|1,hu=>(simp[Ed.cells] at hu;subst hu;simp[*,go_sem];try rfl)|2,hu=>(simp[Ed.cells] at hu;subst hu;simp[*,go_sem];try rfl)|3,hu=>(simp[Ed.cells] at hu;subst hu;simp[*,go_sem];try rfl)|4,hu=>(simp[Ed.cells] at hu;subst hu;simp[*,go_sem];try rfl)|5,hu=>(simp[Ed.cells] at hu;subst hu;simp[*,go_sem];try rfl)|6,hu=>(simp[Ed.cells] at hu;subst hu;simp[*,go_sem];try rfl)|j+7,hu=>simp[Ed.cells] at hu) (by simp[Ed.cells,Value.oneCell']) Yk Y1 Y15 ?_;intro v1 w1 hown1 hg1 hr1;have hz1:=hg1.size;(try simp only[World.size_alloc,World.size_drew] at hz1)))
      exact Ym2
    · rw[hd] at hqg ED
      have ED2:=Lib.hid (ED.trans rfl:Co.deadEd l k=⟨1#8,In.zero,0⟩);clear ED
      go_wp2_with (at_builtin;(refine Q18 _ rfl (.tmp 15) (.tmp 18) _ rfl w.heap.size 109 i0 _ 7 24 Tryz.underlying71 hi0 hj0 hj1 hj2 rfl Y1 _ k (Qhj (Co.deadEds l k)) rfl (Qd hown Yb) _ 1 1 (Ed.cells (⟨1#8,In.zero,0⟩:Ed)) rfl rfl (fun j u hu=>by rw[Q7k];match j,hu with|0,hu=>(simp[Ed.cells] at hu;subst hu;simp[*,go_sem];try rfl)|1,hu=>(simp[Ed.cells] at hu;subst hu;simp[*,go_sem];try rfl)|2,hu=>(simp[Ed.cells] at hu;subst hu;simp[*,go_sem];try rfl)|3,hu=>(simp[Ed.cells] at hu;subst hu;simp[*,go_sem];try rfl)|4,hu=>(simp[Ed.cells] at hu;subst hu;simp[*,go_sem];try rfl)|5,hu=>(simp[Ed.cells] at hu;subst hu;simp[*,go_sem];try rfl)|6,hu=>(simp[Ed.cells] at hu;subst hu;simp[*,go_sem];try rfl)|j+7,hu=>simp[Ed.cells] at hu) (by simp[Ed.cells,Value.oneCell']) Yk Y1 Y15 ?_;intro v1 w1 hown1 hg1 hr1;have hz1:=hg1.size;(try simp only[World.size_alloc,World.size_drew] at hz1)))
      exact Ym2
  · obtain rfl:k=l.length:=by omega
    go_wp2;go_ret;exact⟨_,rfl,hown,hB⟩
attribute [-go_sem] Qm
theorem Qba (ρ:Operand→Value)(op:Oper)(x:Operand)(b o:Nat)(c0:Value)(ho:op.op=.load 34 x)(hx:ρ x=.pointer (some ⟨b,o,none⟩))(w:World)(h0:w.cell? ⟨b,o,none⟩=some c0) :
 (execOp ρ op).run Tryz.prog w=.ok (.value (c0)) w:=by
 obtain⟨dst,op,type,pos,after,guard⟩:=op;simp only at ho;subst ho
 go_simp
theorem Q7w {op:Oper}{a:Act}{C:World→Prop}{K:Act→Prop}{x:Operand}{b o:Nat}{c0:Value}(ho:op.op=.load 34 x)(hx:a.eval x=.pointer (some ⟨b,o,none⟩))
 (h:∀ w,C w→w.cell? ⟨b,o,none⟩=some c0) (hk:K (a.put op.dst (c0))):op.quiet Tryz.prog a C K :=
 Qt (v:=c0) (fun w hC=>by unfold Oper.quietAt;have h0:=h w hC;rw[Qba _ op x b o c0 ho hx w h0];exact⟨rfl,rfl⟩) hk
theorem Qar (w0:World)(tg:Nat)(p:Option Addr)(dc:Nat)(ds:List Df)(ctx:Int)(n:Nat)(t:Co.Tn2)(lb lc:Nat)(nv:Value)(be ce:Nat)(es:List Ed)(w:World)(hT:Q7m w0 w tg p dc ds ctx n t lb lc nv)(hE:Q3z w be es)(hel:es.length=t.l.length)(hn:ds.length≤1000000000):Calls Tryz.prog 22 #[.pointer (some ⟨tg,0,none⟩),.slice (some ⟨be,0,none⟩) t.l.length ce] w fun e w'=>e=.returned (.tuple #[])∧Fr2 tg none w w'∧∃ lb' lc' nv',Q7m w0 w' tg p dc ds ctx n (Co.takeT ds ctx t es) lb' lc' nv':=by
 have h:=Qw7 w0 tg p dc ds ctx n t lb lc nv be ce es w hT hE hel hn;rw[hel] at h;exact h
def Q11v (w0 W:World)(tg:Nat)(p:Option Addr)(dc:Nat)(ds:List Df)(ctx:Int)(n:Nat)(t:Co.Tn2)(lb lc nb nc:Nat)(es:List Ed)(d:Nat→Bool)(ν:Nat→Nat×Nat)(w':World):Prop:=(d 11=false→Q7m w0 w' tg p dc ds ctx n t lb lc (.slice (some ⟨nb,0,none⟩) t.l.length nc))∧(d 10=true→d 11=false→Q3z w' (ν 10).1 es)∧(d 11=true→∃ lb' lc' nv',Q7m w0 w' tg p dc ds ctx n (Co.takeT ds ctx t es) lb' lc' nv')∧Fr2 tg none W w'
theorem Qab {w0 W:World}{tg:Nat}{p:Option Addr}{dc:Nat}{ds:List Df}{ctx:Int}{n:Nat}{t:Co.Tn2}{lb lc nb nc:Nat}{es:List Ed}:KT (Q11v w0 W tg p dc ds ctx n t lb lc nb nc es):=by
 intro d ν w' w1 h hb;obtain⟨k0,k1,k2,k3⟩:=h;exact⟨fun h=>(k0 h).keep hb,fun h h2=>(k1 h h2).keep hb,fun h=>by obtain⟨x,y,z,h2⟩:=k2 h;exact⟨x,y,z,h2.keep hb⟩,k3.trans (row':=none) (Fr2.of_below hb) (fun _ e=>Yfk)⟩
theorem Qn5 {w0 W:World}{tg:Nat}{p:Option Addr}{dc:Nat}{ds:List Df}{ctx:Int}{n:Nat}{t:Co.Tn2}{lb lc nb nc:Nat}{es:List Ed}:MT (Q11v w0 W tg p dc ds ctx n t lb lc nb nc es) [10,11]:=by
 intro d d' ν w' hd h;unfold Q11v at *;simpa only[← hd 10 Y3,← hd 11 Y3] using h
theorem Qtx {w0 W:World}{tg:Nat}{p:Option Addr}{dc:Nat}{ds:List Df}{ctx:Int}{n:Nat}{t:Co.Tn2}{lb lc nb nc:Nat}{es:List Ed}:NT (Q11v w0 W tg p dc ds ctx n t lb lc nb nc es) [10,11]:=by
 intro i hi d ν c w' hd h;unfold Q11v at *;exact Yp5
theorem Qqh {w:World}{B e n:Nat}{v:Value}{l:List In}(h:w.ownsRow B e 7 v n (Qhj (Co.deadEds l n)))(hl:0<n):∃ g cap,v=.slice (some ⟨g,0,none⟩) n cap∧B≤g∧g<w.heap.size∧Q3z w g (Co.deadEds l n):=by
 have h2:=Qxm (es:=Co.deadEds l n) (by rw[Co.deadEds_length];exact h) (by rw[Co.deadEds_length];exact hl);rw[Co.deadEds_length] at h2;exact h2
theorem Qon (w0:World)(tg:Nat)(p:Option Addr)(dc:Nat)(ds:List Df)(ctx:Int)(n:Nat)(t:Co.Tn2)(lb lc:Nat)(nv:Value)(w:World)(hT:Q7m w0 w tg p dc ds ctx n t lb lc nv)(hn:ds.length≤1000000000):Calls Tryz.prog 13 #[.pointer (some ⟨tg,0,none⟩)] w (fun e w'=>e=.returned (.bool (!Co.sameL t.l (Co.roundT ds ctx t).l))∧Fr2 tg none w w'∧∃ lb' lc' nv',Q7m w0 w' tg p dc ds ctx n (Co.roundT ds ctx t) lb' lc' nv'):=by
 have hh:t.v.has=true:=by rw[hT.ok.v];exact Co.programV_has (by rw[← hT.ok.v];exact hT.ok.ok)
 obtain⟨nb,nc,rfl,hN0,hNL⟩:=hT.vd.notes hh;have HNL:=Lib.hid hNL;have HEL:=Lib.hid (show (Co.foldEds t.l (Co.notesL t.l t.v)).length=t.l.length by simp[Co.foldEds]);clear hNL
 have hNt:∀ w',Q7m w0 w' tg p dc ds ctx n t lb lc (.slice (some ⟨nb,0,none⟩) t.l.length nc)→Q3y w' nb (Co.notesL t.l t.v):=fun w' h=>by
  obtain⟨nb2,nc2,e1,h2,-⟩:=h.vd.notes hh
  injection e1 with e1
  injection e1 with e1
  injection e1 with e1
  rw[e1];exact h2
 obtain⟨a0,a1,a2,a3,a4,a5,a6⟩:=hT.cs;have zt:=hT.lg;have hlw:t.l.length≤100000:=Yhx;have zl:=hT.ins.lt Yhx;go_enter Tryz.func13,Tryz.ntmps13
 go_upto_region 2 with fail
 refine Q2 (Q11v w0 w tg p dc ds ctx n t lb lc nb nc (Co.foldEds t.l (Co.notesL t.l t.v))) [10,11] [10,11] (fun i c=>bif i==10 then .slice (some ⟨c.1,0,none⟩) t.l.length t.l.length else .tuple #[]) rfl Yc ?_ (fun d d' ν w'=>Qn5 d d' ν w') (fun d ν w' w1=>Qab d ν w' w1) (fun i hi d ν c w'=>Qtx i hi d ν c w') ?_
 · intro d ν hd
   refine⟨fun _=>hT.keep Y14,?_,?_,Fr2.drew (Fr2.refl _ _ _)⟩
   all_goals (intro h;rw[hd _ Y0] at h;cases h)
 apply Exists.intro;refine⟨fun ν=>?_,?_,?_⟩
 · (try simp only[List.append])
   iterate 10
    (refine Qa Y0 ?_
     apply Exists.intro;refine⟨fun D hD hR hN K hK=>?_,Yc,?_⟩
     · first
       | (go_big_quiet_skip;exact hK)
       | (go_big_quiet_want
          first
           | ((first|(refine Q16 rfl rfl (fun w' hC=>by obtain⟨d,hd,hC⟩:=hR w' hC;obtain⟨k0,k1,k2,k3⟩:=hC;exact (k0 (by cases hq:d 11 with|false=>rfl|true=>exact absurd (hd.shut 10 4 Yd (hd.shut 11 10 Yd hq)) Y1a)).cs.1) ?_)|(refine Q7w rfl rfl (fun w' hC=>by obtain⟨d,hd,hC⟩:=hR w' hC;obtain⟨k0,k1,k2,k3⟩:=hC;exact (k0 (by cases hq:d 11 with|false=>rfl|true=>exact absurd (hd.shut 10 9 Yd (hd.shut 11 10 Yd hq)) Y1a)).cs.2.2.2.2.2.2) ?_))
              simp only[Act.put,List.setIfInBounds_toArray,List.set_cons_succ,List.set_cons_zero]
              go_big_quiet_on
              exact hK)
           | (go_big_quiet_op
              go_big_quiet_on
              exact hK)))
   (refine Q2k Y0 Yc (fun d w' hd hC=>?_) ?_
    · have hC0:=hC
      have n11:d 11=false:=(by cases hq:d 11 with|false=>rfl|true=>exact absurd (hd.shut 11 10 Yd hq) Y1a);obtain⟨k0,k1,k2,k3⟩:=hC0;have hT:=k0 n11;refine⟨23,_,Yez,?_⟩;have hc:=Qs3 lb lc nb nc t.l (Co.notesL t.l t.v) w' hT.ins hT.ok.good (hNt w' hT) HNL.out;rw[HNL.out] at hc;refine hc.mono ?_;rintro e1 w1 ⟨g1,rfl,hE1,hb1⟩;refine⟨(g1,0),rfl,?_⟩;have hC1:=Qab _ _ _ _ hC hb1;obtain⟨k0,k1,k2,k3⟩:=hC1;refine⟨k0,fun _ _=>by simpa[Qo] using hE1,fun h=>?_,k3⟩;have h':d 11=true:=h;rw[n11] at h';cases h'
    simp only[Act.put,List.setIfInBounds_toArray,List.set_cons_succ,List.set_cons_zero,Nat.reduceAdd,Nat.zero_add,Nat.reduceBEq,beq_self_eq_true,cond_true,cond_false])
   (refine Q2k Y0 Yc (fun d w' hd hC=>?_) ?_
    · have n11:=hd.open_
      have q10:=hd.ahead 10 Yd;obtain⟨k0,k1,k2,k3⟩:=hC;have hT:=k0 n11;refine⟨22,_,Yez,?_⟩;refine (Qar w0 tg p dc ds ctx n t lb lc _ (ν 10).1 t.l.length _ w' hT (k1 q10 n11) HEL.out hn).mono ?_;rintro e1 w1 ⟨rfl,hF1,lb1,lc1,nv1,hT1⟩;refine⟨(0,0),rfl,fun h=>?_,fun h h2=>?_,fun _=>⟨lb1,lc1,nv1,hT1⟩,k3.trans hF1 (fun _ e=>Yfk)⟩
      · have h':upd d 11 11=false:=h
        simp[upd] at h'
      · have h':upd d 11 11=false:=h2
        simp[upd] at h'
    simp only[Act.put,List.setIfInBounds_toArray,List.set_cons_succ,List.set_cons_zero,Nat.reduceAdd,Nat.zero_add,Nat.reduceBEq,beq_self_eq_true,cond_true,cond_false])
   exact rfl
 · exact Yob
 · intro ν w8 d hd hC
   obtain⟨k0,k1,k2,k3⟩:=hC;have q10:=hd 10 Y0;have q11:=hd 11 Y0;obtain⟨lb1,lc1,nv1,hT1⟩:=k2 q11;have hFr1:=k3;clear k0 k1 k2 k3;clear a0 a1 a2 a3 a4 a5 a6;obtain⟨b0,-⟩:=hT1.cs;have zt1:=hT1.lg;go_wp2_with (first|(go_at_call 24;refine Yag ?_;intro w2 g2 hE2 hb2)|(go_at_call 22;refine Yai ?_;intro w3 hF2 lb2 lc2 nv2 hT2 hFr3 c0 zt2)|(go_at_call 25;(with_reducible refine (Qsd _ _ _ _ (hT2.ins.keep Y14) hT2.ok.good).mono ?_);rintro e w4 ⟨v4,rfl,hown4,hb4⟩;obtain⟨g4,c4,rfl,-,-,hE4⟩:=Qqh hown4 (by have:=(Co.good_facts hT2.ok.good).1;omega))|(go_at_call 22;refine Yak ?_;intro w5 hF3 lb3 lc3 nv3 hT3 hFr5 d0 zt3 hIw hl3)|(go_at_call 26;refine Yal ?_;intro w6 hb6));go_ret;exact⟨rfl,hFr5.trans (row':=none) (Fr2.of_below hb6) (fun _ e=>Yfk),_,_,_,hT3.keep hb6⟩
end Hk
namespace Hk
attribute [-go_sem] Qm
def vnv (V:Co.Vd)(n:Nat)(c:Nat×Nat):Value:=bif V.has then .slice (some ⟨c.1,0,none⟩) n c.2 else .slice none 0 0
theorem Q8d.vnv {w:World}{nv:Value}{n:Nat}{V:Co.Vd}(h:Q8d w nv n V):∃ c,nv=Hk.vnv V n c:=by
 unfold Hk.vnv;cases hh:V.has with
 | true=>obtain⟨nb,nc,h1,-⟩:=h.1 hh;exact⟨(nb,nc),h1⟩
 | false=>exact⟨(0,0),h.2 hh⟩
def tZ (lb lc dn dc n:Nat)(p:Option Addr)(ctx:Int)(V:Co.Vd)(nv:Value):Array Value:=#[.slice (some ⟨lb,0,none⟩) n lc,.slice p dn dc,.int .i64 ctx,.int .i64 V.code,.int .i64 V.at_,.int .i64 V.steps,nv]
namespace Co
theorem rounds_stop {ds:List Df}{ctx:Int}{n:Nat}{t:Tn2}(h:sameL t.l (roundT ds ctx t).l=true):roundsT ds ctx (n+1) t=roundT ds ctx t:=by unfold roundsT;rw[if_pos h]
theorem rounds_more {ds:List Df}{ctx:Int}{n:Nat}{t:Tn2}(h:sameL t.l (roundT ds ctx t).l=false):roundsT ds ctx (n+1) t=roundsT ds ctx n (roundT ds ctx t):=by
 conv=>lhs;unfold roundsT
 rw[if_neg (by rw[h];simp)]
theorem insnsT_given {l:List In}{ds:List Df}{ctx:Int}(hg:good l=true)(hv:givenB ds ctx=false):insnsT l ds ctx=([],0,1):=by unfold insnsT;rw[hg,hv];rfl
theorem insnsT_bad {l:List In}{ds:List Df}{ctx:Int}(hg:good l=true)(hv:givenB ds ctx=true)(hc:((programV l ds ctx).code==0)=false):insnsT l ds ctx=([],(programV l ds ctx).at_,(programV l ds ctx).code):=by unfold insnsT;rw[hg,hv,hc];rfl
theorem insnsT_yes {l:List In}{ds:List Df}{ctx:Int}(hg:good l=true)(hv:givenB ds ctx=true)(hc:((programV l ds ctx).code==0)=true):insnsT l ds ctx=((roundsT ds ctx 8 ⟨l,programV l ds ctx⟩).l,0,0):=by unfold insnsT;rw[hg,hv,hc];rfl
end Co
theorem Qbh (ρ:Operand→Value)(op:Oper)(x:Operand)(b o:Nat)(c0:Value)(ho:op.op=.load 26 x)(hx:ρ x=.pointer (some ⟨b,o,none⟩))(w:World)(h0:w.cell? ⟨b,o,none⟩=some c0) :
 (execOp ρ op).run Tryz.prog w=.ok (.value (c0)) w:=by
 obtain⟨dst,op,type,pos,after,guard⟩:=op;simp only at ho;subst ho
 go_simp
theorem Q7x {op:Oper}{a:Act}{C:World→Prop}{K:Act→Prop}{x:Operand}{b o:Nat}{c0:Value}(ho:op.op=.load 26 x)(hx:a.eval x=.pointer (some ⟨b,o,none⟩))
 (h:∀ w,C w→w.cell? ⟨b,o,none⟩=some c0) (hk:K (a.put op.dst (c0))):op.quiet Tryz.prog a C K :=
 Qt (v:=c0) (fun w hC=>by unfold Oper.quietAt;have h0:=h w hC;rw[Qbh _ op x b o c0 ho hx w h0];exact⟨rfl,rfl⟩) hk
def Q11w (gb lb lc dc n:Nat)(p:Option Addr)(ctx:Int)(l:List In)(ds:List Df)(V:Co.Vd)(W:World)(d:Nat→Bool)(ν:Nat→Nat×Nat)(w':World):Prop:=w'.cell? ⟨gb,0,none⟩=some (.slice p ds.length dc)∧w'.cell? ⟨gb,1,none⟩=some (.int .i64 ctx)∧Q14 w' lb l∧Q1s w' p ds∧Below W.heap.size W w'∧(d 1=true→w'.ownsRow W.heap.size 41 5 (.slice (some ⟨(ν 1).1,0,none⟩) l.length (ν 1).2) l.length (Q2a l))∧(d 5=true→Q8d w' (vnv V l.length (ν 5)) l.length V∧∀ b,(vnv V l.length (ν 5)).ownBlock=some b→W.heap.size≤b∧b<w'.heap.size)∧(d 1=true→d 5=true→d 7=true→blk w' (ν 7).1=tZ (ν 1).1 (ν 1).2 ds.length dc l.length p ctx V (vnv V l.length (ν 5))∧(∀ i,w'.frozen? ⟨(ν 7).1,i,none⟩=false)∧W.heap.size≤(ν 7).1∧(ν 7).1<w'.heap.size)∧(d 1=true→d 7=true→(ν 1).1≠(ν 7).1)∧(d 5=true→d 7=true→∀ b,(vnv V l.length (ν 5)).ownBlock=some b→b≠(ν 7).1)
theorem Q5b {gb lb lc dc n:Nat}{p:Option Addr}{ctx:Int}{l:List In}{ds:List Df}{V:Co.Vd}{W:World}:KT (Q11w gb lb lc dc n p ctx l ds V W):=by
 intro d ν w' w1 h hb;obtain⟨k0,k1,k2,k3,k4,k5,k6,k7,k8,k9⟩:=h;exact⟨Q0 hb k0,Q0 hb k1,k2.keep hb,k3.keep hb,Q8 k4 hb,fun h=>Qd (k5 h) hb,fun h=>⟨(k6 h).1.keep hb,fun b h2=>⟨((k6 h).2 b h2).1,Nat.lt_of_lt_of_le ((k6 h).2 b h2).2 hb.size⟩⟩,fun h h2 h3=>⟨Q12 hb (k7 h h2 h3).1 (by simp[tZ]),fun i=>(hb.frozen (p:=⟨(ν 7).1,i,none⟩) (k7 h h2 h3).2.2.2).trans ((k7 h h2 h3).2.1 i),(k7 h h2 h3).2.2.1,Nat.lt_of_lt_of_le (k7 h h2 h3).2.2.2 hb.size⟩,k8,k9⟩
theorem Qn7 {gb lb lc dc n:Nat}{p:Option Addr}{ctx:Int}{l:List In}{ds:List Df}{V:Co.Vd}{W:World}:MT (Q11w gb lb lc dc n p ctx l ds V W) [1,5,7]:=by
 intro d d' ν w' hd h;unfold Q11w at *;simpa only[← hd 1 Y3,← hd 5 Y3,← hd 7 Y3] using h
theorem Qty {gb lb lc dc n:Nat}{p:Option Addr}{ctx:Int}{l:List In}{ds:List Df}{V:Co.Vd}{W:World}:NT (Q11w gb lb lc dc n p ctx l ds V W) [1,5,7]:=by
 intro i hi d ν c w' hd h;unfold Q11w at *;exact Yp0
def Q19m (tg:Nat)(V:Co.Vd)(w:World)(w':World):Prop:=w'.cell? ⟨tg,4,none⟩=some (.int .i64 V.at_)∧w'.cell? ⟨tg,3,none⟩=some (.int .i64 V.code)∧Below w.heap.size w w'
theorem Qn6 {tg:Nat}{V:Co.Vd}{w:World}:KC (Q19m tg V w):=by
 intro w' w1 h hb;obtain⟨k0,k1,k2⟩:=h;exact⟨Q0 hb k0,Q0 hb k1,Q8 k2 hb⟩
theorem Q7s (lb lc dc:Nat)(p:Option Addr)(l:List In)(ds:List Df)(ctx:Int)(w:World)(hI:Q14 w lb l)(hD:Q1s w p ds)(hg:Co.good l=true)(hn:ds.length≤1000000000):Calls Tryz.prog 6 #[.slice (some ⟨lb,0,none⟩) l.length lc,.agg #[.slice p ds.length dc,.int .i64 ctx]] w (fun e w'=>∃ v,e=.returned (.tuple #[v,.int .i64 (Co.insnsT l ds ctx).2.1,.int .i64 (Co.insnsT l ds ctx).2.2])∧((Co.insnsT l ds ctx).2.2=0→w'.ownsRow w.heap.size 41 5 v (Co.insnsT l ds ctx).1.length (Q2a (Co.insnsT l ds ctx).1))∧(¬ (Co.insnsT l ds ctx).2.2=0→v=.slice none 0 0)∧Below w.heap.size w w'):=by
 have hlen:l.length≤100000:=Y20;have hl0:0<l.length:=Y20;have HE:=Lib.hid (Co.good_facts hg).2.2.2.2;cases hv:Co.givenB ds ctx
 · have EE:=Lib.hid (Co.insnsT_given (l:=l) (ds:=ds) (ctx:=ctx) hg hv)
   have HV:=Lib.hid hv;clear hv;go_enter Tryz.func6,Tryz.ntmps6;go_wp2_with ((with_reducible apply ic);first|(refine Y82 ?_;intro w1 hb1 hc1 hf1 hz1)|(refine Y83 ?_;intro w2 hb2 hc2 hf2 hz2))
   go_ret3
   rw[EE.out];exact⟨_,rfl,fun h=>absurd h Y0,fun _=>rfl,Y14⟩
 · have HV:=Lib.hid hv
   obtain⟨V,hV⟩:∃ V,Co.programV l ds ctx=V:=⟨_,rfl⟩;have HP:=Lib.hid hV;go_enter Tryz.func6,Tryz.ntmps6
   go_upto_region 6 with ((with_reducible apply ic);first|(refine Y82 ?_;intro w1 hb1 hc1 hf1 hz1)|(refine Y83 ?_;intro w2 hb2 hc2 hf2 hz2))
   refine Q1g (fun W=>W.cell? ⟨w.heap.size,0,none⟩=some (.slice p ds.length dc)∧W.cell? ⟨w.heap.size,1,none⟩=some (.int .i64 ctx)∧w.heap.size+1≤W.heap.size∧Below w.heap.size w W) ⟨Yhd,Yhd,Y15,Y14⟩ ?_;clear hb1 hc1 hf1 hz1 hb2 hc2 hf2 hz2;rintro W ⟨hg0,hg1,hzW,hBW⟩;have hIW:=hI.keep hBW;have hDW:=hD.keep hBW;refine Q2 (Q11w w.heap.size lb lc dc l.length p ctx l ds V W) [1,5,7] [1,5,7] (fun i c=>bif i==1 then .slice (some ⟨c.1,0,none⟩) l.length c.2 else bif i==5 then .agg #[.int .i64 V.code,.int .i64 V.at_,.int .i64 V.steps,vnv V l.length c] else .pointer (some ⟨c.1,0,none⟩)) rfl Yc ?_ (fun d d' ν w'=>Qn7 d d' ν w') (fun d ν w' w1=>Q5b d ν w' w1) (fun i hi d ν c w'=>Qty i hi d ν c w') ?_
   · intro d ν hd
     refine⟨hg0,hg1,hIW,hDW,Y14,?_,?_,?_,?_,?_⟩
     all_goals (intro h;try intro h2;try intro h3)
     all_goals first|(rw[hd _ Y0] at h;cases h)|(rw[hd _ Y0] at h2;cases h2)
   apply Exists.intro;refine⟨fun ν=>?_,?_,?_⟩
   · (try simp only[List.append])
     iterate 1 refine Yea ?_
     (refine Q2k Y0 Yc (fun d w' hd hC=>?_) ?_
      · have hC0:=hC
        have n7:d 7=false:=(by cases hq:d 7 with|false=>rfl|true=>exact absurd (hd.shut 6 1 Yd (hd.shut 7 6 Yd hq)) Y1a);obtain⟨k0,k1,k2,k3,k4,k5,k6,k7,k8,k9⟩:=hC0;refine⟨12,_,Yez,?_⟩;refine (Q85 lb lc l w' k2 hlen hl0).mono ?_;rintro e1 w1 ⟨v1,rfl,hown1,hb1⟩;obtain⟨g1,c1,rfl,-⟩:=Q1h hown1 hl0;refine⟨(g1,c1),rfl,?_⟩;have hsz:=k4.size;have hC1:=Q5b _ _ _ _ hC hb1;obtain⟨k0,k1,k2,k3,k4,k5,k6,k7,k8,k9⟩:=hC1;refine⟨k0,k1,k2,k3,k4,fun _=>by simpa[Qo] using Q1a hown1 hsz,k6,fun h h2 h3=>?_,fun h h2=>?_,k9⟩
        · have h':d 7=true:=h3
          rw[n7] at h';cases h'
        · have h':d 7=true:=h2
          rw[n7] at h';cases h'
      simp only[Act.put,List.setIfInBounds_toArray,List.set_cons_succ,List.set_cons_zero,Nat.reduceAdd,Nat.zero_add,Nat.reduceBEq,beq_self_eq_true,cond_true,cond_false])
     iterate 3 refine Ye9 ?_
     (refine Q2k Y0 Yc (fun d w' hd hC=>?_) ?_
      · have hC0:=hC
        have n7:d 7=false:=(by cases hq:d 7 with|false=>rfl|true=>exact absurd (hd.shut 6 5 Yd (hd.shut 7 6 Yd hq)) Y1a);obtain⟨k0,k1,k2,k3,k4,k5,k6,k7,k8,k9⟩:=hC0;refine⟨8,_,Yez,?_⟩;refine (Q82 lb lc dc p l ds ctx w' k2 k3 hlen hn).mono ?_;rw[HP.out];rintro e1 w1 ⟨nv1,rfl,hvd1,hnb1,hb1⟩;obtain⟨c1,rfl⟩:=hvd1.vnv;refine⟨c1,rfl,?_⟩;have hsz:=k4.size;have hC1:=Q5b _ _ _ _ hC hb1;obtain⟨k0,k1,k2,k3,k4,k5,k6,k7,k8,k9⟩:=hC1;refine⟨k0,k1,k2,k3,k4,k5,fun _=>?_,fun h h2 h3=>?_,k8,fun h h2=>?_⟩
        · have h3:(Qo ν 5 c1 5)=c1:=rfl
          rw[h3];exact⟨hvd1,fun b hb=>⟨Nat.le_trans hsz (hnb1 b hb),hvd1.own_lt b hb⟩⟩
        · have h':d 7=true:=h3
          rw[n7] at h';cases h'
        · have h':d 7=true:=h2
          rw[n7] at h';cases h'
      simp only[Act.put,List.setIfInBounds_toArray,List.set_cons_succ,List.set_cons_zero,Nat.reduceAdd,Nat.zero_add,Nat.reduceBEq,beq_self_eq_true,cond_true,cond_false])
     iterate 1 refine Yea ?_
     (refine Qq Y0 Yc (fun d w' hd hC=>?_) ?_
      · have q1:=hd.shut 6 1 Yd (hd.ahead 6 Yd)
        have q5:=hd.shut 6 5 Yd (hd.ahead 6 Yd);have hb:=Below.alloc (Below.refl _ w') (Nat.le_refl _) (.cells (tZ (ν 1).1 (ν 1).2 ds.length dc l.length p ctx V (vnv V l.length (ν 5))) 50);refine⟨(w'.heap.size,0),w'.alloc (.cells (tZ (ν 1).1 (ν 1).2 ds.length dc l.length p ctx V (vnv V l.length (ν 5))) 50),by (unfold tZ;go_simp<;>rfl),?_⟩;have hC0:=hC;obtain⟨-,-,-,-,j4,j5,j6,-,-,-⟩:=hC0;have hC1:=Q5b _ _ _ _ hC hb;have hsz:=j4.size;have h11:(ν 1).1<w'.heap.size:=((j5 q1).lt _ rfl).2;have h51:=(j6 q5).2;obtain⟨k0,k1,k2,k3,k4,k5,k6,k7,k8,k9⟩:=hC1;refine⟨k0,k1,k2,k3,k4,k5,k6,fun h h2 h3=>⟨by simp[Qo,go_sem,tZ],fun i=>Yg8,Yhu,by simp[Qo]⟩,fun h h2=>?_,fun h h2 b hb2=>?_⟩
        · simp[Qo];omega
        · have h3:=(h51 b hb2).2
          simp[Qo];omega
      simp only[Act.put,List.setIfInBounds_toArray,List.set_cons_succ,List.set_cons_zero,Nat.reduceAdd,Nat.zero_add,Nat.reduceBEq,beq_self_eq_true,cond_true,cond_false])
     iterate 1 refine Yea ?_
     exact rfl
   · exact Yo9
   · intro ν w8 d hd hC
     obtain⟨k0,k1,k2,k3,k4,k5,k6,k7,k8,k9⟩:=hC;have q1:=hd 1 Y0;have q5:=hd 5 Y0;have q7:=hd 7 Y0;obtain⟨hGB,hGF,hG1,hG2⟩:=k7 q1 q5 q7;have hown:=k5 q1;obtain⟨hvd,hvb⟩:=k6 q5;have n17:=k8 q1 q7;have n57:=k9 q5 q7;have hB8:Below w.heap.size w w8:=hBW.trans (k4.mono Y1);obtain⟨lb1,lc1,hpe,hlB,hls,hlc,-,hcell,-⟩:=Q1h hown hl0
     injection hpe with e1 e2 e3
     injection e1 with e1
     injection e1 with e1
     skip
     obtain⟨g9,c9,hpe9,-,-,hcp,hIn,-⟩:=Q2b hown hl0
     injection hpe9 with e4 e5 e6
     injection e4 with e4
     injection e4 with e4
     clear k0 k1 k2 k3 k4 k5 k6 k7 k8 k9 q1 q5 q7 hd;generalize vnv V l.length (ν 5)=nv at *;generalize (ν 1).1=lbx at *;generalize (ν 1).2=lcx at *;generalize (ν 7).1=tg at *;rw[← e4] at hIn;rw[← e6] at hcp;have tcs:∀ j,j<7→w8.cell? ⟨tg,j,none⟩=some (tF lbx lcx p dc nv ds ctx ⟨l,V⟩ j):=fun j hj=>by rw[Q1b,hGB];unfold tZ tF;rcases j with _|_|_|_|_|_|_|j<;>first|omega|rfl
     have a3:w8.cell? ⟨tg,3,none⟩=some (.int .i64 V.code):=tcs 3 Y1;have a4:w8.cell? ⟨tg,4,none⟩=some (.int .i64 V.at_):=tcs 4 Y1;have TCS:=Lib.hid tcs;clear tcs;cases hc:(V.code==0)
     · have hne:(V.code != 0)=true:=by simp only[bne,hc];rfl
       have EE:=Lib.hid (show Co.insnsT l ds ctx=([],V.at_,V.code) by rw[Co.insnsT_bad hg HV.out Y23,hV]);have hnz:¬ V.code=0:=by simpa using hc
       go_upto_region 8 with fail
       refine Ql (Q19m tg V w8) Yc Yc ?_ ?_
       · refine⟨?_,?_,Y14⟩
         all_goals first|assumption|(with_reducible exact hX.keep Y14)|(simp (maxDischargeDepth:=12) [*,go_sem,↓IntWalk.iteOmega];done)|(intro i;simp (maxDischargeDepth:=12) [*,go_sem,↓IntWalk.iteOmega];done)
       refine Yv4 ?_;intro hN
       repeat (first
        | go_big_quiet_skip
        | (go_big_quiet_want
           first
            | ((first|(refine Q3 rfl rfl (fun w' hC=>by obtain⟨k0,k1,k2⟩:=hC;assumption) ?_)|(refine Q7x rfl rfl (fun w' hC=>by obtain⟨k0,k1,k2⟩:=hC;assumption) ?_))
               simp only[Act.put,List.setIfInBounds_toArray,List.set_cons_succ,List.set_cons_zero]
               go_big_quiet_on)
            | (go_big_quiet_op
               first
                | go_big_quiet_on
                | (apply Exists.intro
                   refine⟨fun w' hC=>?_,?_⟩
                   · (first|fail)
                     (try simp only[id]);exact⟨rfl,by first|exact hC|exact Qn6 _ _ hC hb1⟩
                   go_big_quiet_on))))
       refine wpQuiet_nil ?_;intro w9 hC;obtain⟨k0,k1,k2⟩:=hC;have z0:=Q1 k0;have hz9:=k2.size;go_wp2
       go_ret3
       rw[EE.out];exact⟨_,rfl,fun h=>absurd h hnz,fun _=>rfl,Y14⟩
     · have hne:(V.code != 0)=false:=by simp only[bne,hc];rfl
       have EE:=Lib.hid (show Co.insnsT l ds ctx=((Co.roundsT ds ctx 8 ⟨l,V⟩).l,0,0) by rw[Co.insnsT_yes hg HV.out Y23,hV]);have hok:Co.OkT ds ctx l.length ⟨l,V⟩:=⟨hg,hV.symm,by simpa using hc,Nat.le_refl _⟩;have hT8:Q7m w w8 tg p dc ds ctx l.length ⟨l,V⟩ lbx lcx nv:=⟨hB8,by have:=hBW.size;omega,hG2,⟨TCS.out,hGF⟩,hIn,hcp,n17,hvd,n57,hD,hok⟩;have hzw8:=hB8.size;go_wp2_with fail
       go_loopw [46] (fun s46 wr=>∃ (j:Nat) (t:Co.Tn2) (lbt lct:Nat) (nvt:Value),j≤8∧s46=.int .i64 j∧Q7m w wr tg p dc ds ctx l.length t lbt lct nvt∧Hid (Co.roundsT ds ctx (8-j) t=Co.roundsT ds ctx 8 ⟨l,V⟩)) (fun s46 _=>8-(intOf s46).toNat)
       case atStart =>
        exact⟨0,_,_,_,_,Y1,rfl,hT8,Lib.hid rfl⟩
       case round =>
        clear hT8 TCS a3 a4 hGB hGF hvd hvb hIn hown hcell;obtain⟨j,t,lbt,lct,nvt,hj,rfl,hTr,hA⟩:=hrel;obtain⟨c0,-⟩:=hTr.cs;have ztr:=hTr.lg;by_cases hj8:j<8
        · have hd8:decide ((j:Int)<8)=true:=by simp;omega
          obtain⟨m,hm⟩:∃ m,8-j=m+1:=⟨8-j-1,Y1⟩;have hA2:=hA.out;rw[hm] at hA2;clear hA;cases hs:Co.sameL t.l (Co.roundT ds ctx t).l
          · have hA3:=Lib.hid ((Co.rounds_more hs).symm.trans hA2)
            have HS:=Lib.hid hs;clear hs hA2;go_wp2_with (go_at_call 13;refine Yan ?_;intro w7 lb7 lc7 nv7 hT7 c0 zt7 hI7 hl7 hl70)
            go_roundw
            case rel=>exact⟨j+1,_,_,_,_,Y1,Yf1,hT7,by rw[show 8-(j+1)=m from Y1];exact hA3⟩
            case measure=>simp[intOf];omega
          · have HRF:=Lib.hid ((Co.rounds_stop hs).symm.trans hA2)
            have HS:=Lib.hid hs;clear hs hA2;go_wp2_with ((with_reducible apply ic);first|(refine Yan ?_;intro w7 lb7 lc7 nv7 hT7 c0 zt7 hI7 hl7 hl70)|(go_at_call 12;(with_reducible refine (Q85 _ _ _ _ hI7 hl7 hl70).mono ?_);refine Y7v ?_;intro w9 v9 hown9 hb9))
            go_ret3
            skip
            refine⟨v9,Yg9,fun _=>?_,fun h=>absurd (show (Co.insnsT l ds ctx).2.2=0 by rw[EE.out]) h,hT7.below.trans (hb9.mono (by have:=hT7.below.size;omega))⟩;rw[EE.out];show w9.ownsRow w.heap.size 41 5 v9 (Co.roundsT ds ctx 8 ⟨l,V⟩).l.length (Q2a (Co.roundsT ds ctx 8 ⟨l,V⟩).l);rw[← HRF.out];exact Q1a hown9 hT7.below.size
        · have hd8:decide ((j:Int)<8)=false:=by simp;omega
          obtain rfl:j=8:=Y1;have HRF:=Lib.hid (show t=Co.roundsT ds ctx 8 ⟨l,V⟩ from hA.out);have hlr:t.l.length≤100000:=Nat.le_trans (Co.good_facts hTr.ok.good).1.2 Y0;have hlr0:0<t.l.length:=Nat.lt_of_lt_of_le Y0 (Co.good_facts hTr.ok.good).1.1;rw[show ((8:Nat):Int)=8 from rfl];go_wp2_with (go_at_call 12;refine Yap ?_;intro w9 v9 hown9 hb9)
          go_ret3
          skip
          refine⟨v9,Yg9,fun _=>?_,fun h=>absurd (show (Co.insnsT l ds ctx).2.2=0 by rw[EE.out]) h,hTr.below.trans (hb9.mono (by have:=hTr.below.size;omega))⟩;rw[EE.out];show w9.ownsRow w.heap.size 41 5 v9 (Co.roundsT ds ctx 8 ⟨l,V⟩).l.length (Q2a (Co.roundsT ds ctx 8 ⟨l,V⟩).l);rw[← HRF.out];exact Q1a hown9 hTr.below.size
end Hk
namespace Hk
attribute [-go_sem] Qm
def Q2m (w:World)(p:Option Addr)(n:Nat)(f:Nat→BitVec 8):Prop:=n=0∨∃ b o,p=some ⟨b,o,none⟩∧∀ j,j<n→w.cell? ⟨b,o+j,none⟩=some (.int .u8 (N8 (f j)))
theorem Q2m.keep {w w':World}{p:Option Addr}{n:Nat}{f:Nat→BitVec 8}(h:Q2m w p n f)(hb:Below w.heap.size w w'):Q2m w' p n f:=by
 rcases h with h|⟨b,o,h1,h2⟩
 · exact .inl h
 · exact .inr ⟨b,o,h1,fun j hj=>Q0 hb (h2 j hj)⟩
theorem Q2m.cut {w:World}{p:Option Addr}{n m:Nat}{f:Nat→BitVec 8}(h:Q2m w p n f)(hm:m≤n):Q2m w p m f:=by
 rcases h with h|⟨b,o,h1,h2⟩
 · exact .inl Y1
 · exact .inr ⟨b,o,h1,fun j hj=>h2 j Y1⟩
theorem Q6i {w:World}{B e:Nat}{v:Value}{l:List In}(h:w.ownsRow B e 1 v (8*l.length) (Co.encC l))(hl:0<l.length) :
 ∃ g cap,v=.slice (some ⟨g,0,none⟩) (8*l.length) cap∧B≤g∧g<w.heap.size∧8*l.length≤cap∧Q2m w (some ⟨g,0,none⟩) (8*l.length) (Co.encF l):=by
 obtain⟨g,cap,hv,hB,hg,hc,_,hcell,_⟩:=Q1h h Y1;exact⟨g,cap,hv,hB,hg,hc,.inr ⟨g,0,rfl,fun j hj=>by rw[Nat.zero_add];exact hcell j _ (Co.encC_get l j hj)⟩⟩
theorem Qck (p:Option Addr)(c:Nat)(w:World):Calls Tryz.prog 5 #[.slice p 0 c] w (RB.a w (.tuple #[.slice none 0 0,.int .i64 0,.int .i64 70])):=by
 go_enter Tryz.func5,Tryz.ntmps5;go_wp2
 go_loopw [5,6] (fun s5 s6 wr=>s5=.slice none 0 0∧s6=.int .i64 0∧Below w.heap.size w wr) (fun _ _ _=>0)
 case atStart =>
  exact⟨rfl,rfl,Y14⟩
 case round =>
  obtain⟨rfl,rfl,hB⟩:=hrel;have hzB:=hB.size;go_wp2_with fail
  (with_reducible refine (Qh0 _).mono ?_)
  rintro e w2 ⟨rfl,hb2⟩;obtain⟨hc2,hf2,hz2⟩:=Q17 hb2;go_wp2
  go_ret3
  exact⟨rfl,hB.trans (hb2.mono hzB)⟩
theorem Q4x (p:Option Addr)(n c:Nat)(f:Nat→BitVec 8)(w:World)(hB:Q2m w p n f)(hnc:n≤c)(hn:n≤100000):Calls Tryz.prog 5 #[.slice p n c] w fun e w'=>∃ v,e=.returned (.tuple #[v,.int .i64 (Co.decT f n).2.1,.int .i64 (Co.decT f n).2.2])∧((Co.decT f n).2.2=0→w'.ownsRow w.heap.size 41 5 v (Co.decT f n).1.length (Q2a (Co.decT f n).1))∧(¬ (Co.decT f n).2.2=0→v=.slice none 0 0)∧Below w.heap.size w w':=by
 by_cases hs:n=0∨¬ (n:Int)%8=0∨(4096:Int)<n
 · rw[Co.decT_size hs]
   by_cases h0:n=0
   · subst h0
     refine (Qck p c w).mono ?_;exact Ys3
   · obtain⟨b,o,rfl,hc⟩:=hB.resolve_left h0
     refine (Q9v b o n c w Y1 hnc hn (hs.resolve_left h0)).mono ?_;exact Ys3
 · obtain⟨h1,h2,h3⟩:=Co.decT_one hs
   obtain⟨b,o,rfl,hc⟩:=hB.resolve_left Y1;cases hg:Co.good (Co.decL f (n / 8)) with
   | true =>
     rw[Co.decT_ok hs hg];have:=Qgz b o (n / 8) c f w (fun j hj=>hc j Y1) h2 h3 Y1 hg;rw[show 8*(n / 8)=n from Y1] at this;refine this.mono ?_;rintro e w' ⟨v,rfl,ho,hb⟩;exact⟨v,rfl,fun _=>by rw[Co.decL_length];exact ho,fun h=>absurd rfl h,hb⟩
   | false =>
     rw[Co.decT_bad hs hg];have:=Qcl b o (n / 8) c f w (fun j hj=>hc j Y1) h2 h3 Y1 hg;rw[show 8*(n / 8)=n from Y1] at this;refine this.mono ?_;rintro e w' ⟨rfl,hb⟩;exact⟨_,rfl,fun h=>absurd h (by unfold Co.good at hg;simpa using hg),fun _=>rfl,hb⟩
theorem Qic (p:Option Addr)(n c:Nat)(f:Nat→BitVec 8)(lp:Option Addr)(dc:Nat)(ds:List Df)(ctx:Int)(w:World)(hB:Q2m w p n f)(hnc:n≤c)(hn:n≤100000)(hD:Q1s w lp ds)(hnd:ds.length≤1000000000):Calls Tryz.prog 4 #[.slice p n c,.agg #[.slice lp ds.length dc,.int .i64 ctx]] w fun e w'=>∃ v,e=.returned (.tuple #[v,.int .i64 (Co.optT f n ds ctx).2.1,.int .i64 (Co.optT f n ds ctx).2.2])∧((Co.optT f n ds ctx).2.2=0→w'.ownsRow w.heap.size 5 1 v (8*(Co.optT f n ds ctx).1.length) (Co.encC (Co.optT f n ds ctx).1))∧(¬ (Co.optT f n ds ctx).2.2=0→v=.slice none 0 0)∧Below w.heap.size w w':=by
 obtain⟨D,hd⟩:∃ D,Co.decT f n=D:=⟨_,rfl⟩;have HD:=Lib.hid hd;by_cases h1:(Co.decT f n).2.2=0
 · obtain⟨hg,-⟩:=Co.decT_good h1
   have HR:=Lib.hid (Co.optT_yes (ds:=ds) (ctx:=ctx) h1);rw[hd] at h1 hg HR;clear hd;have hne:(D.2.2 != 0)=false:=Yem;have hlg:=(Co.good_facts hg).1;obtain⟨R,hr⟩:∃ R,Co.insnsT D.1 ds ctx=R:=⟨_,rfl⟩;have HI:=Lib.hid hr;have HR2:=Lib.hid (HR.out.trans hr);by_cases h2:R.2.2=0
   · have hne2:(R.2.2 != 0)=false:=by simpa using h2
     obtain⟨k1,k2,k3,k4,k5,k6⟩:=Co.insnsT_ok (l:=D.1) (ds:=ds) (ctx:=ctx) (by rw[hr];exact h2);rw[hr] at k3 k4 k6;have K6:=Lib.hid k6;clear hr k1 k2 k5 k6;have hlg3:=(Co.good_facts k3).1;go_enter Tryz.func4,Tryz.ntmps4
     go_wp2_with (first|(go_at_call 5;(with_reducible refine (Q4x p n c f _ (hB.keep Y14) hnc hn).mono ?_);rw[HD.out];rintro e w1 ⟨v1,rfl,hok1,hno1,hb1⟩;obtain⟨hc1,hf1,hz1⟩:=Q17 hb1;(try simp only[World.size_alloc,World.size_setCell,World.size_drew] at hc1 hf1 hz1);obtain⟨g1,cap1,rfl,hgB1,hgs1,hcp1,hIn1,-⟩:=Q2b (hok1 h1) Y1)|(go_at_call 6;(with_reducible refine (Q7s _ _ _ _ D.1 ds ctx _ (hIn1.keep Y14) (hD.keep Y14) hg hnd).mono ?_);rw[HI.out];rintro e w2 ⟨v2,rfl,hok2,hno2,hb2⟩;obtain⟨hc2,hf2,hz2⟩:=Q17 hb2;(try simp only[World.size_alloc,World.size_setCell,World.size_drew] at hc2 hf2 hz2);obtain⟨g2,cap2,rfl,hgB2,hgs2,hcp2,hIn2,-⟩:=Q2b (hok2 h2) Y1)|(go_at_call 7;(with_reducible refine (Q9u _ _ R.1 _ (hIn2.keep Y14) k3).mono ?_);refine Yaq ?_;intro w3 v3 hok3 hb3 hc3 hf3 hz3))
     go_ret3
     rw[HR2.out];exact⟨_,by rw[K6.out];rfl,fun _=>Q1a hok3 Y1,fun h=>absurd h2 h,Y14⟩
   · have hne2:(R.2.2 != 0)=true:=by simpa using h2
     clear hr;go_enter Tryz.func4,Tryz.ntmps4;go_wp2_with (first|(go_at_call 5;(with_reducible refine (Q4x p n c f _ (hB.keep Y14) hnc hn).mono ?_);rw[HD.out];rintro e w1 ⟨v1,rfl,hok1,hno1,hb1⟩;obtain⟨hc1,hf1,hz1⟩:=Q17 hb1;(try simp only[World.size_alloc,World.size_setCell,World.size_drew] at hc1 hf1 hz1);obtain⟨g1,cap1,rfl,hgB1,hgs1,hcp1,hIn1,-⟩:=Q2b (hok1 h1) Y1)|(go_at_call 6;(with_reducible refine (Q7s _ _ _ _ D.1 ds ctx _ (hIn1.keep Y14) (hD.keep Y14) hg hnd).mono ?_);rw[HI.out];refine Yas ?_;intro w2 v2 hok2 hno2 hb2 hc2 hf2 hz2));obtain rfl:=hno2 h2;go_wp2
     go_ret3
     rw[HR2.out];exact⟨_,rfl,fun h=>absurd h h2,fun _=>rfl,Y14⟩
 · have HR:=Lib.hid (Co.optT_no (ds:=ds) (ctx:=ctx) h1)
   rw[hd] at h1 HR;clear hd;have hne:(D.2.2 != 0)=true:=Yem;go_enter Tryz.func4,Tryz.ntmps4;go_wp2_with (go_at_call 5;refine Yau ?_;intro w1 v1 hok1 hno1 hb1 hc1 hf1 hz1);obtain rfl:=hno1 h1;go_wp2
   go_ret3
   rw[HR.out];exact⟨_,rfl,fun h=>absurd h h1,fun _=>rfl,Y14⟩
end Hk
namespace Hk
attribute [-go_sem] Qm
def Q11x (gb dn dm dc:Nat)(lp:Option Addr)(ctx:Int)(W:World)(d:Nat→Bool)(ν:Nat→Nat×Nat)(w':World):Prop:=w'.cell? ⟨gb,0,none⟩=some (.slice lp dn dc)∧w'.cell? ⟨gb,1,none⟩=some (.int .i64 ctx)∧(d 10=true→w'.cell? ⟨(ν 10).1,0,none⟩=some (bif d 11 then .slice lp dm dc else .slice none 0 0))∧(d 10=true→w'.cell? ⟨(ν 10).1,1,none⟩=some (bif d 11 then .int .i64 ctx else .int .i64 0))∧(d 10=true→∀ i,w'.frozen? ⟨(ν 10).1,i,none⟩=false)∧(d 10=true→W.heap.size≤(ν 10).1)∧W.heap.size≤w'.heap.size∧Below W.heap.size W w'
theorem Qac {gb dn dm dc:Nat}{lp:Option Addr}{ctx:Int}{W:World}:KT (Q11x gb dn dm dc lp ctx W):=by
 intro d ν w' w1 h hb;obtain⟨k0,k1,k2,k3,k4,k5,k6,k7⟩:=h;exact⟨Q0 hb k0,Q0 hb k1,fun h=>Q0 hb (k2 h),fun h=>Q0 hb (k3 h),fun h=>Q7 hb (k2 h) (k4 h),k5,Nat.le_trans k6 hb.size,Q8 k7 hb⟩
theorem Qn8 {gb dn dm dc:Nat}{lp:Option Addr}{ctx:Int}{W:World}:MT (Q11x gb dn dm dc lp ctx W) [10,11]:=by
 intro d d' ν w' hd h;unfold Q11x at *;simpa only[← hd 10 Y3,← hd 11 Y3] using h
theorem Qtz {gb dn dm dc:Nat}{lp:Option Addr}{ctx:Int}{W:World}:NT (Q11x gb dn dm dc lp ctx W) [10]:=by
 intro i hi d ν c w' hd h;unfold Q11x at *;exact Ypy
@[local go_sem] theorem Q163 (a b c d:Value)(w:World):Sem.run Tryz.prog (Instr.field 36 (.agg #[a,b,c,d]) 0) w=.ok a w:=Yc
theorem Qit {w:World}{p:Option Addr}{n cap:Nat}{f:Nat→BitVec 8}(h:Q2m w p n f)(hn:0<n):(convert 22 9 (.slice p n cap)).run Tryz.prog w=.ok (.string (strOfNums ((List.range n).map fun j=>N8 (f j)))) w:=by
 obtain⟨b,o,rfl,hc⟩:=h.resolve_left Y1;refine run_convert_bytes_arg w _ 5 Yc Yc b o n cap _ Y3 (fun i hi=>?_) _ Yc;rw[hc i hi];simp[List.getD,hi]
theorem Q12g (p:Option Addr)(n c:Nat)(f:Nat→BitVec 8)(lp:Option Addr)(dc:Nat)(ds:List Df)(ctx:Int)(w:World)(hB:Q2m w p n f)(hnc:n≤c)(hD:Q1s w lp ds)(hd:ds.length≤dc):Calls Tryz.prog 3 #[.slice p n c,.agg #[.slice lp ds.length dc,.int .i64 ctx]] w (RB.a w (.bool true)):=by
 obtain⟨m,hm,hmn,hm5⟩:∃ m:Nat,min (n:Int) 500=(m:Int)∧m≤n∧m≤500:=⟨min n 500,Y1,Y1,Y1⟩;obtain⟨ds2,hm2,hD2,hd2⟩:∃ ds2:List Df,min (ds.length:Int) 10=(ds2.length:Int)∧Q1s w lp ds2∧ds2.length≤ds.length:=⟨ds.take 10,Y4,fun k hk=>by have:=hD k (by simp at hk;omega);simpa using this,Y4⟩;have hnd:ds2.length≤1000000000:=Y1;have hmc:m≤c:=Y1;go_enter Tryz.func3,Tryz.ntmps3
 go_upto_region 2 with fail
 refine Q1g (fun W=>W.cell? ⟨w.heap.size,0,none⟩=some (.slice lp ds.length dc)∧W.cell? ⟨w.heap.size,1,none⟩=some (.int .i64 ctx)∧w.heap.size+1≤W.heap.size∧Below w.heap.size w W) ⟨Yhd,Yhd,Y15,Y14⟩ ?_;rintro W ⟨hg0,hg1,hzW,hBW⟩;have hBy:=(hB.cut hmn).keep hBW;have hDW:=hD2.keep hBW;have hx0:¬ (ds2.length:Int)<0:=Y1;have hx1:¬ (dc:Int)<(ds2.length:Int):=Y1;refine Q2 (Q11x w.heap.size ds.length ds2.length dc lp ctx W) [10,11] [10] (fun _ c=>.pointer (some ⟨c.1,0,none⟩)) rfl Yc ?_ (fun d d' ν w'=>Qn8 d d' ν w') (fun d ν w' w1=>Qac d ν w' w1) (fun i hi d ν c w'=>Qtz i hi d ν c w') ?_
 · exact Ymj
 apply Exists.intro;refine⟨fun ν=>?_,?_,?_⟩
 · (try simp only[List.append])
   iterate 10
    (refine Qa Y0 ?_
     apply Exists.intro;refine⟨fun D hD hR hN K hK=>?_,Yc,?_⟩
     · first
       | (go_big_quiet_skip;exact hK)
       | (go_big_quiet_want
          first
           | ((first|(refine Q1j rfl rfl (fun w' hC=>Yi4) ?_)|(refine Q1j rfl rfl (fun w' hC=>Yi5) ?_)|(refine Q3 rfl rfl (fun w' hC=>Yi4) ?_)|(refine Q3 rfl rfl (fun w' hC=>Yi5) ?_))
              simp only[Act.put,List.setIfInBounds_toArray,List.set_cons_succ,List.set_cons_zero]
              go_big_quiet_on
              exact hK)
           | (go_big_quiet_op
              first
               | (go_big_quiet_on;exact hK)
               | (apply Exists.intro
                  refine⟨fun w' hC=>?_,?_⟩
                  · exact Ysx
                  go_big_quiet_on
                  exact hK))))
   (refine Qq Y0 Yc (fun d w' hd hC=>?_) ?_
    · have r:=hd.open_
      have q11:d 11=false:=by
       cases hq:d 11 with
       | false=>rfl
       | true=>exact absurd (hd.shut 11 10 Yd hq) Ye
      refine⟨(w'.heap.size,0),w'.alloc (.cells #[.slice none 0 0,.int .i64 0] 25),Yez,?_⟩;have hz0:=hC;obtain⟨-,-,-,-,-,-,hz0,-⟩:=hz0;have hC:=Qac _ _ _ _ hC (Below.alloc (Below.refl _ w') (Nat.le_refl _) (.cells #[.slice none 0 0,.int .i64 0] 25));obtain⟨k0,k1,k2,k3,k4,k5,k6,k7⟩:=hC;refine⟨?_,?_,?_,?_,?_,?_,?_,?_⟩<;>first|assumption|(intros;simp (maxDischargeDepth:=12) [*,upd,Qo,go_sem,↓IntWalk.iteOmega];done)
    simp only[Act.put,List.setIfInBounds_toArray,List.set_cons_succ,List.set_cons_zero,Nat.reduceAdd,Nat.zero_add])
   (refine Qh rfl rfl rfl rfl Yc (fun d w' hd hC=>?_) ?_
    · obtain⟨k0,k1,k2,k3,k4,k5,k6,k7⟩:=hC
      (try (have q10:=hd.ahead 10 Yd;simp only[q10,true_implies,forall_const] at k2 k3 k4 k5));(try have p11:=hd.ahead 11 Yd);have r:=hd.open_;refine⟨_,Y11,?_⟩
      refine⟨?_,?_,?_,?_,?_,?_,?_,Yg⟩<;>first|(simp (maxDischargeDepth:=12) [*,upd,Qo,go_sem,↓IntWalk.iteOmega];done)|(intro h;have h':d 10=true:=h;have hx:=k5 h';simp (maxDischargeDepth:=12) [*,upd,Qo,go_sem,↓IntWalk.iteOmega];done)|(intro h i;have h':d 10=true:=h;have hx:=k5 h';simp (maxDischargeDepth:=12) [*,upd,Qo,go_sem,↓IntWalk.iteOmega];done)|(intros;simp (maxDischargeDepth:=12) [*,upd,Qo,go_sem,↓IntWalk.iteOmega];done))
   exact rfl
 · exact Yoo
 · intro ν w8 d hd hC
   obtain⟨k0,k1,k2,k3,k4,k5,k6,k7⟩:=hC;have q10:=hd 10 Y0;have q11:=hd 11 Y0;simp only[q10,q11,cond_true,cond_false,forall_const,true_implies] at k0 k1 k2 k3 k4 k5 k6 k7;clear q10 q11;clear hd;have z0:=Q1 k0;have z2:=Q1 k2;have hB8w:Below w.heap.size w w8:=hBW.trans (k7.mono Y1);have hB8:=hBy.keep k7;have hD8:=hDW.keep k7;generalize (ν 10).1=gb at *;clear hBy hDW hB hD hD2 k7 k0 k1 hg0 hg1 hBW;obtain⟨A,hA⟩:∃ A,Co.optT f m ds2 ctx=A:=⟨_,rfl⟩;have HA:=Lib.hid hA;by_cases h1:A.2.2=0
   · obtain⟨hv,hg,hl,-,he⟩:=Co.optT_ok (f:=f) (n:=m) (ds:=ds2) (ctx:=ctx) (by rw[hA];exact h1)
     obtain⟨t1,t2,t3,t4,t5⟩:=Co.optT_twice (f:=f) (n:=m) (ds:=ds2) (ctx:=ctx) (by rw[hA];exact h1) (A:=A.1) (by rw[hA]);rw[hA] at hg hl he;obtain⟨R,hr⟩:∃ R,Co.insnsT A.1 ds2 ctx=R:=⟨_,rfl⟩;obtain⟨-,-,hgR,hlR2,hcR,heR⟩:=Co.insnsT_ok (l:=A.1) (ds:=ds2) (ctx:=ctx) t3;rw[hr] at hgR hlR2 hcR heR t2 t3;have HD:=Lib.hid t1;have HT:=Lib.hid t2;have HR:=Lib.hid hr;have h2:=t3;have hl0:=(Co.good_facts hg).1;have hlR:=(Co.good_facts hgR).1;obtain⟨V,hV⟩:∃ V,Co.programV R.1 ds2 ctx=V:=⟨_,rfl⟩;rw[hV] at hcR;have HV:=Lib.hid hV;have hlR:R.1.length≤100000:=Y1;clear hA t1 t2 t3 t4 t5 hr hV he heR hv;have hne:(A.2.2 != 0)=false:=Yem;have heq:(R.2.2==0)=true:=Yen;have hc0:(V.code==0)=true:=by simpa using hcR
     go_upto_region 10 with (first|(go_at_call 4;(with_reducible refine (Qic p m c f lp dc ds2 ctx _ hB8 hmc Y1 hD8 hnd).mono ?_);rw[HA.out];rintro e w1 ⟨v1,rfl,hok1,hno1,hb1⟩;obtain⟨hc1,hf1,hz1⟩:=Q17 hb1;(try simp only[World.size_alloc,World.size_setCell,World.size_drew] at hc1 hf1 hz1);obtain⟨g1,cap1,rfl,hgB1,hgs1,hcp1,hBy1⟩:=Q6i (hok1 h1) Y1)|(go_at_call 4;(with_reducible refine (Qic _ (8*A.1.length) cap1 (Co.encF A.1) lp dc ds2 ctx _ (hBy1.keep Y14) hcp1 Y1 (hD8.keep Y14) hnd).mono ?_);rw[HT.out];rintro e w2 ⟨v2,rfl,hok2,-,hb2⟩;obtain⟨hc2,hf2,hz2⟩:=Q17 hb2;(try simp only[World.size_alloc,World.size_setCell,World.size_drew] at hc2 hf2 hz2);obtain⟨g2,cap2,rfl,hgB2,hgs2,hcp2,hBy2⟩:=Q6i (hok2 h2) Y1)|(go_at_call 5;(with_reducible refine (Q4x _ (8*A.1.length) cap1 (Co.encF A.1) _ (hBy1.keep Y14) hcp1 Y1).mono ?_);rw[HD.out];rintro e w3 ⟨v3,rfl,hok3,-,hb3⟩;obtain⟨hc3,hf3,hz3⟩:=Q17 hb3;(try simp only[World.size_alloc,World.size_setCell,World.size_drew] at hc3 hf3 hz3);obtain⟨g3,cap3,rfl,hgB3,hgs3,hcp3,hIn3,-⟩:=Q2b (hok3 rfl) (show 0<A.1.length from Y1))|(go_at_call 6;(with_reducible refine (Q7s _ _ _ _ A.1 ds2 ctx _ (hIn3.keep Y14) (hD8.keep Y14) hg hnd).mono ?_);rw[HR.out];rintro e w4 ⟨v4,rfl,hok4,-,hb4⟩;obtain⟨hc4,hf4,hz4⟩:=Q17 hb4;(try simp only[World.size_alloc,World.size_setCell,World.size_drew] at hc4 hf4 hz4);obtain⟨g4,cap4,rfl,hgB4,hgs4,hcp4,hIn4,-⟩:=Q2b (hok4 h2) Y1)|(go_at_call 7;(with_reducible refine (Q9u _ _ R.1 _ (hIn4.keep Y14) hgR).mono ?_);rintro e w5 ⟨v5,rfl,hok5,hb5⟩;obtain⟨hc5,hf5,hz5⟩:=Q17 hb5;(try simp only[World.size_alloc,World.size_setCell,World.size_drew] at hc5 hf5 hz5);obtain⟨g5,cap5,rfl,hgB5,hgs5,hcp5,hBy5⟩:=Q6i hok5 Y1))
     have hv2:=Qit (hBy2.keep (show Below w2.heap.size w2 w5 from Y14)) (cap:=cap2) (show 0<8*R.1.length from Y1);have hv5:=Qit hBy5 (cap:=cap5) (show 0<8*R.1.length from Y1);have q1:decide ((8:Int)*(A.1.length:Int)≤(m:Int))=true:=Y4;have q2:decide ((8:Int)*(R.1.length:Int)≤(8:Int)*(A.1.length:Int))=true:=Y4;have q3:decide ((0:Int)<(8:Int)*(R.1.length:Int))=true:=Y4;go_wp2_with (first|(go_at_call 8;(with_reducible refine (Q82 _ _ _ _ R.1 ds2 ctx _ (hIn4.keep Y14) (hD8.keep Y14) hlR hnd).mono ?_);rw[HV.out];rintro e w6 ⟨v6,rfl,hvd6,hnb6,hb6⟩;obtain⟨p6,n6,c6,rfl⟩:=hvd6.slice;obtain⟨hc6,hf6,hz6⟩:=Q17 hb6;(try simp only[World.size_alloc,World.size_setCell,World.size_drew] at hc6 hf6 hz6)));go_ret
     exact⟨rfl,hB8w.trans (Below.mono (B:=w8.heap.size) Y14 (by have:=hB8w.size;omega))⟩
   · clear hA
     have hne:(A.2.2 != 0)=true:=Yem;go_wp2_with (go_at_call 4;refine Yav ?_;intro w1 v1 hok1 hno1 hb1 hc1 hf1 hz1);obtain rfl:=hno1 h1;go_wp2;go_ret;exact⟨rfl,hB8w.trans (hb1.mono (by have:=hB8w.size;omega))⟩
end Hk
