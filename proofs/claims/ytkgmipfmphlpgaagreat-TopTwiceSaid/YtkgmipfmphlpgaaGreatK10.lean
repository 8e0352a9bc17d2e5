/- A part of the proof of TopTwice. No condition but each statement's own. -/
import Derived.Test.YtkgmipfmphlpgaaGreatK09
import Derived.Great.BuildSlice
import Derived.Maps.Keyed
open Go Go.RowKit Go.Proofs
set_option linter.all false
set_option maxRecDepth 100000
set_option maxHeartbeats 20000000
namespace Hk
theorem Q9u (b c:Nat)(l:List In)(w:World)(hI:Q14 w b l)(hg:Co.good l=true):Calls Tryz.prog 7 #[.slice (some ⟨b,0,none⟩) l.length c] w fun e w'=>∃ v,e=.returned (.tuple #[v,.int .i64 0,.int .i64 0])∧w'.ownsRow w.heap.size 5 1 v (8*l.length) (Co.encC l)∧Below w.heap.size w w':=by
 obtain⟨i0,hi0,hj0,hj1,hj2⟩:=info_parts Q9w;obtain⟨⟨h1,h2⟩,_,_,_,hck⟩:=Co.good_facts hg;have hL:l.length≤100000:=Y1;have hG:=Lib.hid hg;clear hg;have hbw:=hI.lt Y1;go_enter Tryz.func7,Tryz.ntmps7;go_wp2_with fail;refine (Q31 _ _ _ _ hI hL).mono ?_;rw[hck];rintro e wC ⟨rfl,hbC⟩;clear hck;obtain⟨hcC,hfC,hzC⟩:=Q17 hbC;go_wp2
 go_loopw [7,23] (fun s7 s23 wr=>∃ k:Nat,k≤l.length∧s23=.int .i64 k∧wr.ownsRow w.heap.size 5 1 s7 (8*k) (Co.encC (l.take k))∧Below w.heap.size w wr) (fun _ s23 _=>l.length - (intOf s23).toNat)
 case atStart =>
  exact⟨0,Y1,rfl,Qy,hbC⟩
 case round =>
  obtain⟨k,hk,rfl,hown,hB⟩:=hrel;clear hbC hcC hfC hzC;have hzB:=hB.size;by_cases hlt:k<l.length
  · obtain⟨c0,c1,c2,c3,c4⟩:=(hI.keep hB) k hlt
    have hsn:=Lib.hid (Co.encC_snoc l k hlt);obtain⟨hr1,hr2⟩:=Co.good_regs hG.out hlt;generalize l[k]=x at *;go_wp2_with (first|(go_at_call 14;(with_reducible refine (Q13q _ hr1 hr2 _).mono ?_);rintro e wp ⟨vp,rfl,hvp,hbp⟩;obtain⟨gp,capp,rfl,hgp,hgp2,_,hcap,hcp,hfp⟩:=Q1h hvp Y1;obtain⟨hcp1,hfp1,hzp⟩:=Q17 hbp;(try simp only[World.size_alloc,World.size_setCell,World.size_drew] at hcp1 hfp1 hzp))|(at_builtin;(refine wpList_append_own _ rfl (.tmp 32) (.tmp 33) _ rfl w.heap.size 5 i0 _ 1 1 Tryz.underlying22 hi0 hj0 hj1 hj2 rfl Y1 _ (8*k) (Co.encC (l.take k)) rfl (Qd hown Yb) ⟨gp,0,none⟩ 8 _ (Co.bytesC x 8) rfl (by simp[Co.bytesC_length]) (fun j u hu=>by rw[Q7k];exact hcp j u hu) (by simp[Co.bytesC,Value.oneCell']) Yk Y1 Yl ?_;intro v1 w1 hown1 hg1 hat1)))
    refine⟨⟨k+1,Y1,Yf1,by rw[show 8*(k+1)=8*k+8 from Y1,hsn.out];exact hown1,Below.grown Yb hg1 Yn (fun j e=>(hown.lt j e).1)⟩,Yfd⟩
  · obtain rfl:k=l.length:=by omega
    go_wp2
    go_ret3
    exact⟨_,rfl,by rw[List.take_of_length_le (Nat.le_refl _)] at hown;exact hown,hB⟩
theorem Qh0  (w:World):Calls Tryz.prog 10 #[.slice none 0 0] w (RB.a w (.tuple #[.int .i64 0,.int .i64 70])):=by
 go_enter Tryz.func10,Tryz.ntmps10;go_wp2;go_ret2;exact⟨rfl,Yb⟩
theorem Q4t:(Tryz.prog.info? 41).map (fun i=>(i.zero,i.size,i.bytes))=some (some (.agg #[.int .u8 0,.int .u8 0,.int .u8 0,.int .i16 0,.int .i32 0]),5,12):=Yc
theorem Q9v (b o n c:Nat)(w:World)(hn0:0<n)(hnc:n≤c)(hnb:n≤100000)(h:¬ (n:Int) % 8=0∨(4096:Int)<n):Calls Tryz.prog 5 #[.slice (some ⟨b,o,none⟩) n c] w (RB.a w (.tuple #[.slice none 0 0,.int .i64 0,.int .i64 70])):=by
 rcases h with h|h
 all_goals (go_enter Tryz.func5,Tryz.ntmps5;go_wp2;all_goals (go_ret3;exact⟨rfl,Yb⟩))
theorem Qgz (b o m c:Nat)(f:Nat→BitVec 8)(w:World)(hc:∀ j,j<8*m→w.cell? ⟨b,o+j,none⟩=some (.int .u8 (N8 (f j))))(hm0:0<m)(hm:m≤512)(hnc:8*m≤c)(hg:Co.good (Co.decL f m)=true):Calls Tryz.prog 5 #[.slice (some ⟨b,o,none⟩) (8*m) c] w fun e w'=>∃ v,e=.returned (.tuple #[v,.int .i64 0,.int .i64 0])∧w'.ownsRow w.heap.size 41 5 v m (Q2a (Co.decL f m))∧Below w.heap.size w w':=by
 obtain⟨i0,hi0,hj0,hj1,hj2⟩:=info_parts Q4t;obtain⟨_,_,_,_,hck⟩:=Co.good_facts hg;clear hg;have HC:=Lib.hid hc;have zb:=Q1 (hc 0 Y1);clear hc;have HK:=Lib.hid hck;clear hck;have e8:((8*m:Nat):Int) % 8=0:=Y1;have e9:((8*m:Nat):Int)≤4096:=Y1;go_enter Tryz.func5,Tryz.ntmps5;go_wp2
 go_loopw [5,6] (fun s5 s6 wr=>∃ k:Nat,k≤m∧s6=.int .i64 (8*k:Nat)∧wr.ownsRow w.heap.size 41 5 s5 k (Q2a (Co.decL f k))∧Below w.heap.size w wr) (fun _ s6 _=>8*m - (intOf s6).toNat)
 case atStart =>
  exact⟨0,Y1,rfl,Qy,Yb⟩
 case round =>
  obtain⟨k,hk,rfl,hown,hB⟩:=hrel;have hzB:=hB.size;by_cases hlt:k<m
  · exact Ykc
  · obtain rfl:k=m:=by omega
    have hown':wr.ownsRow w.heap.size 41 5 u5 (Co.decL f k).length (Q2a (Co.decL f k)):=by rw[Co.decL_length];exact hown
    have hOW:=Lib.hid hown;obtain⟨g,cap,rfl,hgB,hgs,hcap,hIns,hfz⟩:=Q2b hown' Yp;clear hown hown';go_wp2_with fail;refine (Q31 _ _ _ _ hIns Yp).mono ?_;rw[HK.out];rintro e wk ⟨rfl,hbk⟩;clear HK hIns hfz;obtain⟨hck1,hfk1,hzk⟩:=Q17 hbk;go_wp2
    go_ret3
    exact⟨_,rfl,Qd hOW.out hbk,Yb⟩
theorem Qcl (b o m c:Nat)(f:Nat→BitVec 8)(w:World)(hc:∀ j,j<8*m→w.cell? ⟨b,o+j,none⟩=some (.int .u8 (N8 (f j))))(hm0:0<m)(hm:m≤512)(hnc:8*m≤c)(hg:Co.good (Co.decL f m)=false):Calls Tryz.prog 5 #[.slice (some ⟨b,o,none⟩) (8*m) c] w (RB.a w (.tuple #[.slice none 0 0,.int .i64 (Co.check (Co.decL f m)).1,.int .i64 (Co.check (Co.decL f m)).2])):=by
 obtain⟨i0,hi0,hj0,hj1,hj2⟩:=info_parts Q4t;have hck:((Co.check (Co.decL f m)).2 != 0)=true:=by unfold Co.good at hg;unfold bne;rw[hg];rfl
 clear hg;have HC:=Lib.hid hc;have zb:=Q1 (hc 0 Y1);clear hc;have HK:=Lib.hid hck;clear hck;have e8:((8*m:Nat):Int) % 8=0:=Y1;have e9:((8*m:Nat):Int)≤4096:=Y1;go_enter Tryz.func5,Tryz.ntmps5;go_wp2
 go_loopw [5,6] (fun s5 s6 wr=>∃ k:Nat,k≤m∧s6=.int .i64 (8*k:Nat)∧wr.ownsRow w.heap.size 41 5 s5 k (Q2a (Co.decL f k))∧Below w.heap.size w wr) (fun _ s6 _=>8*m - (intOf s6).toNat)
 case atStart =>
  exact⟨0,Y1,rfl,Qy,Yb⟩
 case round =>
  obtain⟨k,hk,rfl,hown,hB⟩:=hrel;have hzB:=hB.size;by_cases hlt:k<m
  · exact Ykc
  · obtain rfl:k=m:=by omega
    have hown':wr.ownsRow w.heap.size 41 5 u5 (Co.decL f k).length (Q2a (Co.decL f k)):=by rw[Co.decL_length];exact hown
    have hOW:=Lib.hid hown;obtain⟨g,cap,rfl,hgB,hgs,hcap,hIns,hfz⟩:=Q2b hown' Yp;clear hown hown';go_wp2_with fail;refine (Q31 _ _ _ _ hIns Yp).mono ?_;have hk2:=HK.out;rintro e wk ⟨rfl,hbk⟩;clear HK hIns hfz;obtain⟨hck1,hfk1,hzk⟩:=Q17 hbk;go_wp2
    go_ret3
    exact⟨rfl,Yb⟩
end Hk
namespace Hk
theorem Q9n (off:Nat):∀ (vs:List Value) (i:Nat) (cs:Array Value),off+i+vs.length≤cs.size →
 (vs.zipIdx i).foldl (fun cs (p:Value × Nat)=>cs.setIfInBounds (off+p.2) p.1) cs=Q26 cs.size fun k=>if off+i≤k∧k<off+i+vs.length then vs.getD (k - (off+i)) undef else cs.getD k undef
 | [],i,cs,_=>by
   apply Array.ext_getElem?;intro k;simp only[List.zipIdx_nil,List.foldl_nil];rw[Qj];by_cases hk:k<cs.size
   · exact Yrt
   · rw[if_neg hk,Array.getElem?_eq_none Y1]
 | v :: vs,i,cs,h=>by
   simp only[List.length_cons] at h;rw[List.zipIdx_cons,List.foldl_cons,Q9n off vs (i+1) _ (by simp only[Array.size_setIfInBounds];omega)];simp only[Array.size_setIfInBounds];refine Qx fun k hk=>?_
   by_cases h2:k=off+i
   · subst h2
     rw[if_neg Y1,if_pos Y8];simp[hk]
   · by_cases h3:off+(i+1)≤k∧k<off+(i+1)+vs.length
     · exact Yrz
     exact Yos
theorem Qvi (off:Nat)(c cs:Array Value)(h:off+c.size≤cs.size):c.zipIdx.foldl (fun cs (p:Value × Nat)=>cs.setIfInBounds (off+p.2) p.1) cs=Q23 cs off c:=by
 rw[← Array.foldl_toList,Array.toList_zipIdx,Q9n off c.toList 0 cs Y5];exact Yo7
theorem Q1n {Qqf:Nat→Option (Nat × Nat)}{cells:Array Value}{i off n:Nat}{v:Value}{rest:List (Nat × Value)}(hp:Qqf i=some (off,n))(hv:v.cells.size=n)(h:off+n≤cells.size) :
 Instr.fill Qqf cells ((i,v) :: rest)=Instr.fill Qqf (Q23 cells off v.cells) rest:=by
 conv=>lhs;unfold Instr.fill
 rw[hp];simp only;rw[if_neg (by simp[hv];omega),Qvi off v.cells cells Y1]
theorem Q32 {P:Program}{t:TypeId}{fields:Array Field}{it:TypeInfo}{z:Value}{places:List (Nat × Nat)}{Qxi:List (Nat × Value)}(hi:P.info? t=some it)(hu:P.underlying t=some (.struct fields))(hz:it.zero=some z)
 (hp:fields.toList.mapM (fun f=>(P.info? f.type).map fun i=>(f.offset,i.size))=some places):P.built t Qxi=Instr.fill (places.toArray[·]?) z.cells Qxi:=by
 unfold Program.built;rw[hi,hu];simp only[hz,hp]
def Q7q (n:Int)(s:St)(k:Nat):Value:=if k=0 then .int .i64 n else s.cell (k - 1)
def Q2n (n:Int)(s:St):Array Value:=Q26 590 (Q7q n s)
theorem Q1y (n:Int)(s:St):(Q2n n s).size=590:=Qr ..
theorem Qap (n:Int)(s:St):(Q2n n s)[0]?=some (.int .i64 n):=by unfold Q2n;rw[Qj,if_pos Y1];rfl
theorem Qi4 (n:Int)(s:St):(Q2n n s).extract 1 590=s.cells:=by
 have:=Q1c 590 (Q7q n s) 1 589 Y1;unfold Q2n St.cells;rw[show 590=1+589 from rfl,this];exact Qx fun k _=>by unfold Q7q;rw[if_neg Y1,show 1+k - 1=k from Y1]
theorem Qod (n:Int)(s:St)(k:Nat)(h:k<590):(Q7q n s k).oneCell'=true:=by
 unfold Q7q;split
 · rfl
 · exact s.cell_one _ Y1
theorem Qs2 (z:Array Value)(hz:z.size=590)(n:Int)(s:St):Instr.fill ([(0,1),(1,589)].toArray[·]?) z [(0,.int .i64 n),(1,.agg s.cells)]=some (Q2n n s):=by
 rw[Q1n (off:=0) (n:=1) rfl rfl Y1,Q1n (off:=1) (n:=589) rfl (by simp only[Value.cells];exact s.cells_size) (by rw[Qp];omega)];unfold Instr.fill;refine congrArg some ?_;unfold Q23 Q2n;rw[Qr,hz];refine Qx fun k hk=>?_
 have e1:(Value.agg s.cells).cells=s.cells:=rfl;have e2:(Value.int .i64 n).cells=#[Value.int .i64 n]:=rfl;rw[e1,e2,s.cells_size];unfold Q7q;by_cases h0:k=0
 · subst h0
   rw[if_neg Y1,Q13 Y1,if_pos rfl,if_pos Y3];rfl
 · rw[if_pos Y1,if_neg h0]
   unfold St.cells;rw[Q13 Y1]
def Q1p (ws:List Wy):List Value:=ws.flatMap fun y=>(Q2n y.at_ y.s).toList
theorem Q5p (ws:List Wy):(Q1p ws).length=ws.length*590:=by
 induction ws with
 | nil=>rfl
 | cons y r ih=>unfold Q1p at ih ⊢;rw[List.flatMap_cons,List.length_append,ih,Array.length_toList,Q1y,List.length_cons];omega
theorem Q8n (a b:List Wy):Q1p (a++b)=Q1p a++Q1p b:=by unfold Q1p;rw[List.flatMap_append]
theorem Q4j:∀ (ws:List Wy) (k:Nat) (h:k<ws.length) (j:Nat),j<590→(Q1p ws)[k*590+j]?=some (Q7q ws[k].at_ ws[k].s j)
 | [],k,h,_,_=>by simp at h
 | y :: r,k,h,j,hj=>by
   have e:Q1p (y :: r)=(Q2n y.at_ y.s).toList++Q1p r:=rfl;have hl:(Q2n y.at_ y.s).toList.length=590:=by rw[Array.length_toList,Q1y]
   rw[e];cases k with
   | zero =>
     rw[List.getElem?_append_left Y1];unfold Q2n;exact Yq0
   | succ k =>
     rw[List.getElem?_append_right Y1,hl,show (k+1)*590+j - 590=k*590+j from Y1];simp only[List.getElem_cons_succ];exact Q4j r k Y5 j hj
theorem Qi2 (ws:List Wy):∀ u∈Q1p ws,u.oneCell'=true:=by
 intro u hu;unfold Q1p at hu;rw[List.mem_flatMap] at hu;obtain⟨y,_,h⟩:=hu;rw[Array.mem_toList_iff] at h;obtain⟨k,hk,rfl⟩:=Array.getElem_of_mem h;have h2:(Q2n y.at_ y.s)[k]?=some (Q7q y.at_ y.s k):=by unfold Q2n;rw[Qj,if_pos Yq]
 exact Yru
end Hk
namespace Hk
open Go Go.RowKit Go.Maps Go.ChangeMaps
def Q5d (w:World)(b:Nat)(z:Value)(m:Nat)(f:Nat→Value):Prop :=
 ∃ es clock,w.heap[b]?=some (.map es clock)∧es.size≤m∧(∀ x∈es.toList,∃ n:Nat,n≤1000000∧x.key=.int .i64 n) ∧
  (∀ (i j:Nat) x y,es.toList[i]?=some x→es.toList[j]?=some y→x.key=y.key→i=j)∧(∀ n:Nat,(∀ x∈es.toList,x.key≠.int .i64 n)→f n=z)∧∀ (n:Nat),∀ x∈es.toList,x.key=.int .i64 n→f n=x.val
namespace Q5d
variable {w : World} {b m : Nat} {z : Value} {f : Nat → Value}
theorem lt (h:Q5d w b z m f):b<w.heap.size:=by
 obtain⟨es,clock,hb,_⟩:=h;exact (Array.getElem?_eq_some_iff.1 hb).1
theorem mono (h:Q5d w b z m f){m':Nat}(hm:m≤m'):Q5d w b z m' f:=by
 obtain⟨es,clock,hb,h1,h2⟩:=h;exact⟨es,clock,hb,Nat.le_trans h1 hm,h2⟩
theorem of_block (h:Q5d w b z m f){w':World}(hb:w'.heap[b]?=w.heap[b]?):Q5d w' b z m f:=by
 obtain⟨es,clock,h0,h1⟩:=h;exact⟨es,clock,hb.trans h0,h1⟩
theorem keep (h:Q5d w b z m f){w':World}(hb:Below w.heap.size w w'):Q5d w' b z m f:=h.of_block (hb.block b h.lt)
theorem made (w:World)(z:Value):Q5d (w.alloc (.map #[] 0)) w.heap.size z 0 (fun _=>z) :=
 ⟨#[],0,heap_alloc_new w _,by simp,by simp,by simp,fun _ _=>rfl,by simp⟩
variable {P : Program} {t k e : TypeId}
theorem Q13n (hk:P.underlying k=some (.int .i64)):Keyed P k:=int_keyed hk
theorem Q6s (hk:P.underlying k=some (.int .i64)){n:Nat}(hn:n≤1000000):keyOf P k (.int .i64 n)=some (.int .i64 n):=keyOf_int_mk hk (by simp[Lit.wf,IntKind.min,IntKind.max,IntKind.signed,IntKind.bits];omega)
theorem run_lookup (h:Q5d w b z m f)(ht:P.underlying t=some (.map k e))(hk:P.underlying k=some (.int .i64))(hz:(zeroValue e).run P w=.ok z w){n:Nat}(hn:n≤1000000) :
 (Instr.lookup t (.map (some b)) (.int .i64 n) false).run P w=.ok (f n) w:=by
 obtain⟨es,clock,hb,h1,h2,h3,h4,h5⟩:=h;have K:=Q13n (P:=P) hk;have hkey:=Q6s (P:=P) hk hn;rcases K.find w hkey es.toList (fun x hx=>Yfj) with ⟨g1,g2⟩|⟨j,e0,g1,g2,g3⟩
 · simp[Instr.lookup,run_underlying ht,MapKept.run_getObj_map hb,K.check w _ hkey,g1,hz,Result.andThen,h4 n g2]
 · simp[Instr.lookup,run_underlying ht,MapKept.run_getObj_map hb,K.check w _ hkey,g1,Result.andThen,h5 n e0 (List.mem_of_getElem? g2) g3]
theorem run_update (h:Q5d w b z m f)(ht:P.underlying t=some (.map k e))(hk:P.underlying k=some (.int .i64)){n:Nat}(hn:n≤1000000)(v:Value) :
 ∃ o,(Instr.mapUpdate t (.map (some b)) (.int .i64 n) v).run P w=.ok () (setBlock w b o)∧Q5d (setBlock w b o) b z (m+1) (fun j=>if j=n then v else f j):=by
 obtain⟨es,clock,hb,h1,h2,h3,h4,h5⟩:=h;have K:=Q13n (P:=P) hk;have hkey:=Q6s (P:=P) hk hn;have hlt:=(Array.getElem?_eq_some_iff.1 hb).1;rcases K.find w hkey es.toList (fun x hx=>Yfj) with ⟨g1,g2⟩|⟨j,e0,g1,g2,g3⟩
 · refine⟨.map (es.push ⟨.int .i64 n,v,clock⟩) (clock+1),?_,es.push ⟨.int .i64 n,v,clock⟩,clock+1,?_,Y4,?_,?_,?_,?_⟩
   · simp[Instr.mapUpdate,run_underlying ht,MapKept.run_getObj_map hb,K.check w false hkey,g1,MapKept.run_setObj_map _ hb,Result.andThen,setBlock]
   · simp[setBlock,hlt]
   · intro x hx
     simp only[Array.toList_push,List.mem_append,List.mem_singleton] at hx;rcases hx with hx|rfl
     · exact h2 x hx
     · exact⟨n,hn,rfl⟩
   · intro i j x y hi hj hxy
     rw[Array.toList_push] at hi hj;rw[List.getElem?_append] at hi hj;split at hi<;>split at hj
     · exact h3 i j x y hi hj hxy
     · rename_i h6 h7
       obtain⟨h8,h9⟩:=List.getElem?_eq_some_iff.1 hj;simp only[List.length_singleton] at h8;have:y.key=.int .i64 n:=by rw[← h9];simp
       exact absurd (hxy.trans this) (g2 x (List.mem_of_getElem? hi))
     · rename_i h6 h7
       obtain⟨h8,h9⟩:=List.getElem?_eq_some_iff.1 hi;simp only[List.length_singleton] at h8;have:x.key=.int .i64 n:=by rw[← h9];simp
       exact absurd (hxy.symm.trans this) (g2 y (List.mem_of_getElem? hj))
     · obtain⟨h8,h9⟩:=List.getElem?_eq_some_iff.1 hi
       obtain⟨h10,h11⟩:=List.getElem?_eq_some_iff.1 hj;simp only[List.length_singleton] at h8 h10;omega
   · intro q hq
     have hne:q≠n:=fun e=>hq ⟨.int .i64 n,v,clock⟩ Y3 (by rw[e])
     show (if q=n then v else f q)=z;rw[if_neg hne];exact h4 q fun x hx=>hq x (by simp only[Array.toList_push,List.mem_append];exact .inl hx)
   · intro q x hx hxk
     simp only[Array.toList_push,List.mem_append,List.mem_singleton] at hx;rcases hx with hx|rfl
     · have hne:q≠n:=fun e=>g2 x hx (by rw[hxk,e])
       show (if q=n then v else f q)=x.val;rw[if_neg hne];exact h5 q x hx hxk
     · exact Ypv
 · have hj:es[j]?=some e0:=by simpa using g2
   have hjl:j<es.toList.length:=(List.getElem?_eq_some_iff.1 g2).1;have hlist:(es.modify j (fun e'=>{ e' with key:=.int .i64 n,val:=v })).toList=es.toList.set j { e0 with key:=.int .i64 n,val:=v }:=by rw[Array.toList_modify,modify_eq_set _ _ _ _ g2]
   refine⟨.map (es.modify j (fun e'=>{ e' with key:=.int .i64 n,val:=v })) clock,?_,es.modify j (fun e'=>{ e' with key:=.int .i64 n,val:=v }),clock,?_,Y4,?_,?_,?_,?_⟩
   · simp[Instr.mapUpdate,run_underlying ht,MapKept.run_getObj_map hb,K.check w false hkey,g1,hj,g3,K.stays w hkey,MapKept.run_setObj_map _ hb,Result.andThen,setBlock]
   · simp[setBlock,hlt]
   · intro x hx
     rw[hlist] at hx;rcases List.mem_or_eq_of_mem_set hx with hx|rfl
     · exact h2 x hx
     · exact⟨n,hn,rfl⟩
   · have kk:∀ (i:Nat) (x:MapEntry),(es.toList.set j { e0 with key:=.int .i64 n,val:=v })[i]?=some x→∃ x':MapEntry,es.toList[i]?=some x'∧x'.key=x.key:=by
      intro i x hi;rw[List.getElem?_set] at hi;split at hi
      · rename_i e
        subst e;(try rw[if_pos hjl] at hi);exact⟨e0,g2,by rw[← Option.some.inj hi];exact g3⟩
      · exact⟨x,hi,rfl⟩
     intro i i' x y hi hi' hxy;rw[hlist] at hi hi';obtain⟨x',hx',ex⟩:=kk i x hi;obtain⟨y',hy',ey⟩:=kk i' y hi';exact h3 i i' x' y' hx' hy' (by rw[ex,ey,hxy])
   · intro q hq
     have hne:q≠n:=fun e=>hq { e0 with key:=.int .i64 n,val:=v } (by rw[hlist];exact List.mem_iff_getElem?.2 ⟨j,by rw[List.getElem?_set,if_pos rfl,if_pos hjl]⟩) (by rw[e])
     show (if q=n then v else f q)=z;rw[if_neg hne];refine h4 q fun x hx hxk=>?_
     obtain⟨i,hi⟩:=List.mem_iff_getElem?.1 hx;refine hq x ?_ hxk;rw[hlist];refine List.mem_iff_getElem?.2 ⟨i,?_⟩;rw[List.getElem?_set,if_neg (fun e=>?_)]
     · exact hi
     · subst e
       rw[g2] at hi;rw[← Option.some.inj hi,g3] at hxk;simp only[Value.int.injEq,Int.natCast_inj,true_and] at hxk;exact hne hxk.symm
   · intro q x hx hxk
     rw[hlist] at hx;obtain⟨i,hi⟩:=List.mem_iff_getElem?.1 hx;rw[List.getElem?_set] at hi;split at hi
     · rename_i e
       (try rw[if_pos hjl] at hi);rw[← Option.some.inj hi] at hxk ⊢;exact Ypv
     · rename_i hne
       have hqn:q≠n:=fun e=>hne (h3 j i e0 x g2 hi (by rw[g3,hxk,e]))
       show (if q=n then v else f q)=x.val;rw[if_neg hqn];exact h5 q x (List.mem_of_getElem? hi) hxk
end Q5d
end Hk
namespace Hk
open Go Go.RowKit Go.ChangeMaps
def Q59 (w:World)(p:Option Addr)(ws:List Wy):Prop:=∀ i (h:i<ws.length),∃ b o,p=some ⟨b,o,none⟩∧∀ j,j<590→w.cell? ⟨b,o+i*590+j,none⟩=some (Q7q ws[i].at_ ws[i].s j)
structure Q1w (w:World) (ρ:Nat→Nat) (v:Value) (ws:List Wy):Prop where
 val:∃ p c,v=.slice p ws.length c∧ws.length≤c∧c≤maxLen∧Q59 w p ws∧(0<ws.length→∀ a,p=some a→ρ a.block=0)
def frF (f:Fm)(v:Value)(k:Nat):Value:=if k=0 then .int .i64 f.at_ else if k<590 then f.s.cell (k - 1) else v
def frC (f:Fm)(v:Value):Array Value:=Q26 591 (frF f v)
def Q1m (fs:List (Fm × Value)):List Value:=fs.flatMap fun q=>(frC q.1 q.2).toList
def Q1q (ss:List St):List Value:=ss.flatMap fun s=>s.cells.toList
structure Mb where
 g:Nat
 lb:Nat
 lc:Nat
 p:Option Addr
 dc:Nat
 jb:Nat
 jc:Nat
 mb:Nat
 nb:Nat
 nc:Nat
 ST:TypeId
 FT:TypeId
def gF (M:Mb)(l:List In)(ds:List Df)(ctx:Int)(fv:Value)(k:Lk):Nat→Value
 | 0=>.slice (some ⟨M.lb,0,none⟩) l.length M.lc
 | 1=>.slice M.p ds.length M.dc
 | 2=>.int .i64 ctx
 | 3=>.slice (some ⟨M.jb,0,none⟩) l.length M.jc
 | 4=>.map (some M.mb)
 | 5=>fv
 | 6=>.int .i64 k.code
 | 7=>.int .i64 k.vat
 | 8=>.int .i64 k.steps
 | _=>.slice (some ⟨M.nb,0,none⟩) l.length M.nc
def Q9c (ns:Nat→Nt)(j:Nat):Value:=(ns (j / 10)).cell (j % 10)
structure Q1x (w0 w:World) (M:Mb) (l:List In) (ds:List Df) (ctx:Int) (k:Lk) (ρ:Nat→Nat) (f:Nat→Value) (mm:Nat) (fv:Value) (fs:List (Fm × Value)):Prop where
 below:Below w0.heap.size w0 w
 ins:Q14 w0 M.lb l
 defs:Q1s w0 M.p ds
 cells:Qg w M.g 10 (gF M l ds ctx fv k)
 joints:Qi w M.jb l.length (Co.jointB l)
 notes:Qg w M.nb (l.length*10) (Q9c k.notes)
 kept:Q5d w M.mb (.slice none 0 0) mm f
 rows:∀ i,w.ownsRow w0.heap.size M.ST 589 (f i) (k.kept i).length (Q1q (k.kept i))
 row:w.ownsRow w0.heap.size M.FT 591 fv fs.length (Q1m fs)
 stk:k.stk=(fs.map (·.1)).reverse
 left:∀ q∈fs,Q1w w ρ q.2 q.1.left
 room:mm+fs.length≤k.steps
 steps:k.steps≤1024
 len:∀ i,(k.kept i).length≤16
 rg:ρ M.g=1
 rj:ρ M.jb=2
 rm:ρ M.mb=3
 rn:ρ M.nb=4
 rf:∀ b,fv.ownBlock=some b→ρ b=5
 rk:∀ i b,(f i).ownBlock=some b→ρ b=6+i
 lg:M.g<w.heap.size
 lj:M.jb<w.heap.size
 ln:M.nb<w.heap.size
 bg:w0.heap.size≤M.g
 bj:w0.heap.size≤M.jb
 bm:w0.heap.size≤M.mb
 bn:w0.heap.size≤M.nb
theorem Q59.keep {w w':World}{p:Option Addr}{ws:List Wy}(h:Q59 w p ws)(hb:Below w.heap.size w w'):Q59 w' p ws:=fun i hi=>by
 obtain⟨b,o,hp,hc⟩:=h i hi;exact⟨b,o,hp,fun j hj=>Q0 hb (hc j hj)⟩
theorem Q59.of_cells {w w':World}{p:Option Addr}{ws:List Wy}(h:Q59 w p ws)(hb:∀ a,p=some a→w'.heap[a.block]?=w.heap[a.block]?):Q59 w' p ws:=fun i hi=>by
 obtain⟨b,o,hp,hc⟩:=h i hi;refine⟨b,o,hp,fun j hj=>?_⟩;have:=hc j hj;rw[← this];exact World.cell?_of_block (w:=w) (a:=⟨b,o+i*590+j,none⟩) (show w'.heap[b]?=w.heap[b]? from hb ⟨b,o,none⟩ hp)
theorem Q59.lt {w:World}{a:Addr}{ws:List Wy}(h:Q59 w (some a) ws)(hl:0<ws.length):a.block<w.heap.size:=by
 obtain⟨b,o,hp,hc⟩:=h 0 hl;have:=Q1 (hc 0 Y1);rw[Option.some.inj hp];exact this
theorem Q1w.keep {w w':World}{ρ:Nat→Nat}{v:Value}{ws:List Wy}(h:Q1w w ρ v ws)(hb:Below w.heap.size w w'):Q1w w' ρ v ws:=by
 obtain⟨p,c,h1,h2,h3,h4,h5⟩:=h.val;exact⟨p,c,h1,h2,h3,h4.keep hb,h5⟩
theorem Q1w.other {w w':World}{ρ:Nat→Nat}{v:Value}{ws:List Wy}(h:Q1w w ρ v ws)(hb:∀ b,ρ b=0→b<w.heap.size→w'.heap[b]?=w.heap[b]?):Q1w w' ρ v ws:=by
 obtain⟨p,c,h1,h2,h3,h4,h5⟩:=h.val;refine⟨p,c,h1,h2,h3,?_,h5⟩;rcases Nat.eq_zero_or_pos ws.length with hl|hl
 · intro i hi;omega
 · refine h4.of_cells fun a ha=>hb _ (h5 hl a ha) ?_
   rw[ha] at h4;exact h4.lt hl
theorem Q1w.role {w:World}{ρ ρ':Nat→Nat}{v:Value}{ws:List Wy}(h:Q1w w ρ v ws)(hr:∀ b,b<w.heap.size→ρ' b=ρ b):Q1w w ρ' v ws:=by
 obtain⟨p,c,h1,h2,h3,h4,h5⟩:=h.val;refine⟨p,c,h1,h2,h3,h4,fun hl a ha=>?_⟩;rw[hr _ (by rw[ha] at h4;exact h4.lt hl)];exact h5 hl a ha
theorem Q2g (f:Fm)(v:Value):(frC f v).size=591:=Qr ..
theorem Q1z (fs:List (Fm × Value)):(Q1m fs).length=fs.length*591:=by
 induction fs with
 | nil=>rfl
 | cons y r ih=>unfold Q1m at ih ⊢;rw[List.flatMap_cons,List.length_append,ih,Array.length_toList,Q2g,List.length_cons];omega
theorem Q2f (a b:List (Fm × Value)):Q1m (a++b)=Q1m a++Q1m b:=by unfold Q1m;rw[List.flatMap_append]
theorem Q74 (a b:List St):Q1q (a++b)=Q1q a++Q1q b:=by unfold Q1q;rw[List.flatMap_append]
theorem Q4a:∀ (fs:List (Fm × Value)) (k:Nat) (h:k<fs.length) (j:Nat),j<591→(Q1m fs)[k*591+j]?=some (frF fs[k].1 fs[k].2 j)
 | [],k,h,_,_=>by simp at h
 | y :: r,k,h,j,hj=>by
   have e:Q1m (y :: r)=(frC y.1 y.2).toList++Q1m r:=rfl;have hl:(frC y.1 y.2).toList.length=591:=by rw[Array.length_toList,Q2g]
   rw[e];cases k with
   | zero =>
     rw[List.getElem?_append_left Y1];unfold frC;exact Yq0
   | succ k =>
     rw[List.getElem?_append_right Y1,hl,show (k+1)*591+j - 591=k*591+j from Y1];simp only[List.getElem_cons_succ];exact Q4a r k Y5 j hj
theorem Q6c:∀ (ss:List St) (k:Nat) (h:k<ss.length) (j:Nat),j<589→(Q1q ss)[k*589+j]?=some (ss[k].cell j)
 | [],k,h,_,_=>by simp at h
 | y :: r,k,h,j,hj=>by
   have e:Q1q (y :: r)=y.cells.toList++Q1q r:=rfl;have hl:y.cells.toList.length=589:=by rw[Array.length_toList,St.cells_size]
   rw[e];cases k with
   | zero =>
     rw[List.getElem?_append_left Y1];simp only[Nat.zero_mul,Nat.zero_add,List.getElem_cons_zero];rw[Array.getElem?_toList];unfold St.cells;rw[Qj,if_pos hj]
   | succ k =>
     rw[List.getElem?_append_right Y1,hl,show (k+1)*589+j - 589=k*589+j from Y1];simp only[List.getElem_cons_succ];exact Q6c r k Y5 j hj
theorem Qxk {w:World}{B e size n g cap j:Nat}{u:Value}{xs:List Value}(h:w.ownsRow B e size (.slice (some ⟨g,0,none⟩) n cap) n xs)(hj:j<xs.length):(w.setCell ⟨g,j,none⟩ u).ownsRow B e size (.slice (some ⟨g,0,none⟩) n cap) n (xs.set j u):=by
 obtain⟨h1,h2⟩:=h;refine⟨by rw[List.length_set];exact h1,?_⟩;rcases h2 with ⟨h',_⟩|⟨g',cap',cur,h',hb,hg,hnc,hcm,hcs,htake⟩
 · simp at h'
 · simp only[Value.slice.injEq,Option.some.injEq,Addr.mk.injEq,and_true,true_and] at h'
   obtain⟨rfl,rfl⟩:=h';have hlt:=(Array.getElem?_eq_some_iff.1 hg).1
   have hsz:j<cur.size:=by
    have h3:(cur.toList.take (n*size)).length=xs.length:=by rw[htake]
    rw[List.length_take,Array.length_toList] at h3;omega
   refine .inr ⟨g,cap,cur.setIfInBounds j u,rfl,hb,?_,hnc,hcm,by simpa using hcs,?_⟩
   · unfold World.setCell
     simp only[Array.getElem?_modify,if_true,hg];rfl
   · rw[Array.toList_setIfInBounds,List.take_set,htake]
theorem Q5d.setCell {w:World}{b m:Nat}{z:Value}{f:Nat→Value}(h:Q5d w b z m f){a:Addr}(u:Value)(hne:a.block≠b):Q5d (w.setCell a u) b z m f:=h.of_block (Below.heap_setCell w a u b (Ne.symm hne))
theorem Q6h {w:World}{B e k n:Nat}{v u:Value}{xs:List Value}(h:w.ownsRow B e k v n xs)(a:Addr)(hne:v.ownBlock≠some a.block):(w.setCell a u).ownsRow B e k v n xs :=
 Qv h fun q hq=>Below.heap_setCell w a u q (fun e=>hne (by rw[hq,e]))
theorem Q9m (fs:List (Fm × Value))(fm:Fm)(lv lv':Value)(ws:List Wy):(Q1m (fs++[(fm,lv)])).set (fs.length*591+590) lv'=Q1m (fs++[({ fm with left:=ws },lv')]):=by
 rw[Q2f,Q2f,List.set_append_right _ _ (by rw[Q1z];omega),Q1z,show fs.length*591+590 - fs.length*591=590 from Y1];refine congrArg (fun z=>Q1m fs++z) ?_;have e1:∀ f v,Q1m [(f,v)]=(frC f v).toList:=fun f v=>by simp[Q1m]
 rw[e1,e1];refine List.ext_getElem? fun j=>?_
 rw[List.getElem?_set];unfold frC;by_cases hj:590=j
 · subst hj
   rw[if_pos rfl,if_pos (by rw[Array.length_toList,Qr];omega),Array.getElem?_toList,Qj,if_pos Y1];rfl
 · rw[if_neg hj,Array.getElem?_toList,Array.getElem?_toList,Qj,Qj]
   by_cases h2:j<591
   · rw[if_pos h2,if_pos h2]
     unfold frF;by_cases h0:j=0
     · rw[if_pos h0,if_pos h0]
     · rw[if_neg h0,if_neg h0,if_pos Y1,if_pos Y1]
   · rw[if_neg h2,if_neg h2]
namespace Q1x
variable {w0 w w' : World} {M : Mb} {l : List In} {ds : List Df} {ctx : Int} {k k' : Lk} {ρ : Nat → Nat} {f : Nat → Value} {mm : Nat} {fv : Value} {fs : List (Fm × Value)}
theorem keep (h:Q1x w0 w M l ds ctx k ρ f mm fv fs)(hb:Below w.heap.size w w'):Q1x w0 w' M l ds ctx k ρ f mm fv fs :=
 { h with
  below:=h.below.trans (hb.mono h.below.size)
  cells:=h.cells.keep h.lg hb
  joints:=h.joints.keep h.lj hb
  notes:=h.notes.keep h.ln hb
  kept:=h.kept.keep hb
  rows:=fun i=>Qd (h.rows i) hb
  row:=Qd h.row hb
  left:=fun q hq=>(h.left q hq).keep hb
  lg:=Nat.lt_of_lt_of_le h.lg hb.size
  lj:=Nat.lt_of_lt_of_le h.lj hb.size
  ln:=Nat.lt_of_lt_of_le h.ln hb.size }
theorem setg (h:Q1x w0 w M l ds ctx k ρ f mm fv fs)(hf:Fr2 M.g none w w')(hc:Qg w' M.g 10 (gF M l ds ctx fv k'))(e1:k'.kept=k.kept)(e2:k'.stk=k.stk)(e3:k'.notes=k.notes)(hs:k.steps≤k'.steps)(hs2:k'.steps≤1024) :
 Q1x w0 w' M l ds ctx k' ρ f mm fv fs:=by
 have ne:∀ b,ρ b≠1→b≠M.g:=fun b hb e=>hb Yr
 refine { h with below:=h.below.trans (hf.below h.below.size h.bg (fun _ e=>Yfk)),cells:=hc,joints:=?_,notes:=?_,kept:=?_,rows:=?_,row:=?_,stk:=by rw[e2];exact h.stk,left:=?_,room:=Nat.le_trans h.room hs,steps:=hs2,len:=by rw[e1];exact h.len,lg:=Nat.lt_of_lt_of_le h.lg hf.size,lj:=Nat.lt_of_lt_of_le h.lj hf.size,ln:=Nat.lt_of_lt_of_le h.ln hf.size }
 · exact hf.bools h.joints h.lj (ne _ Ys) Y3
 · rw[e3];exact hf.cells h.notes h.ln (ne _ Yt) Y3
 · exact h.kept.of_block (hf.block _ h.kept.lt (ne _ Yu) Y3)
 · intro i;rw[e1];exact Qv (h.rows i) fun b hb=>hf.block b ((h.rows i).lt b hb).2 (ne _ Yv) Y3
 · exact Yr7
 · exact Ysd
theorem setn (h:Q1x w0 w M l ds ctx k ρ f mm fv fs)(hf:Fr2 M.nb none w w')(ns:Nat→Nt)(hc:Qg w' M.nb (l.length*10) (Q9c ns)) :
 Q1x w0 w' M l ds ctx { k with notes:=ns } ρ f mm fv fs:=by
 have ne:∀ b,ρ b≠4→b≠M.nb:=fun b hb e=>hb (by rw[e];exact h.rn)
 refine { h with below:=h.below.trans (hf.below h.below.size h.bn (fun _ e=>Yfk)),cells:=?_,joints:=?_,notes:=hc,kept:=?_,rows:=?_,row:=?_,left:=?_,lg:=Nat.lt_of_lt_of_le h.lg hf.size,lj:=Nat.lt_of_lt_of_le h.lj hf.size,ln:=Nat.lt_of_lt_of_le h.ln hf.size }
 · exact (hf.cells h.cells h.lg (ne _ Yx) Y3).congr fun j hj=>by unfold gF;rcases j with _|_|_|_|_|_|_|_|_|j<;>rfl
 · exact hf.bools h.joints h.lj (ne _ Ys) Y3
 · exact h.kept.of_block (hf.block _ h.kept.lt (ne _ Yu) Y3)
 · intro i;exact Qv (h.rows i) fun b hb=>hf.block b ((h.rows i).lt b hb).2 (ne _ Yv) Y3
 · exact Yr7
 · exact Ysd
theorem Qv4 (M:Mb)(l:List In)(ds:List Df)(ctx:Int)(fv fv':Value)(k k':Lk)(e1:k'.code=k.code)(e2:k'.vat=k.vat)(e3:k'.steps=k.steps)(j:Nat):gF M l ds ctx fv' k' j=if j=5 then fv' else gF M l ds ctx fv k j:=by
 unfold gF;rcases j with _|_|_|_|_|_|_|_|_|j<;>simp[e1,e2,e3]
theorem push (h:Q1x w0 w M l ds ctx k ρ f mm fv fs){v':Value}{fm:Fm}{lv:Value}(hown:w'.ownsRow w0.heap.size M.FT 591 v' (fs.length+1) (Q1m (fs++[(fm,lv)])))(hg:w.grownBy w' fv.ownBlock)(hat:∀ b,v'.ownBlock=some b→some b=fv.ownBlock∨w.heap.size≤b)
 (hl:Q1w w ρ lv fm.left) (hr:mm+fs.length+1≤k.steps):∃ ρ',Q1x w0 (w'.setCell ⟨M.g,5,none⟩ v') M l ds ctx { k with stk:=fm :: k.stk } ρ' f mm v' (fs++[(fm,lv)]):=by
 have hro:∀ b,b<w.heap.size→(if v'.ownBlock=some b then 5 else ρ b)=ρ b:=fun b hb=>by
  exact Yrb
 have hnf:∀ b,ρ b≠5→some b≠fv.ownBlock:=fun b hb e=>hb (h.rf b e.symm)
 have hbl:∀ b,b<w.heap.size→ρ b≠5→b≠M.g→(w'.setCell ⟨M.g,5,none⟩ v').heap[b]?=w.heap[b]?:=fun b hb h5 hng=>by
  rw[Below.heap_setCell _ _ _ _ hng];exact hg.block b hb (hnf b h5)
 have ne:∀ b,ρ b≠1→b≠M.g:=fun b hb e=>hb Yr
 have hsz:w.heap.size≤(w'.setCell ⟨M.g,5,none⟩ v').heap.size:=by simpa using hg.size
 have hvg:v'.ownBlock≠some M.g:=fun e=>by
  rcases hat _ e with e2|e2
  · exact hnf M.g Yx e2
  · have:=h.lg;omega
 have hbel:Below w0.heap.size w0 w':=Below.grown h.below hg h.below.size (fun q hq=>(h.row.lt q hq).1)
 have cof:∀ b n (f:Nat→Value),b<w.heap.size→ρ b≠5→b≠M.g→Qg w b n f→Qg (w'.setCell ⟨M.g,5,none⟩ v') b n f:=fun b n f hb h5 hng hc =>
  ⟨fun j hj=>(World.cell?_of_block (w:=w) (a:=⟨b,j,none⟩) (hbl b hb h5 hng)).trans (hc.1 j hj),fun j=>(World.frozen?_of_block (w:=w) (a:=⟨b,j,none⟩) (hbl b hb h5 hng)).trans (hc.2 j)⟩
 refine⟨fun b=>if v'.ownBlock=some b then 5 else ρ b,{ h with below:=hbel.setCell h.bg v',cells:=?_,joints:=?_,notes:=?_,kept:=?_,rows:=?_,row:=?_,stk:=?_,left:=?_,room:=?_,rg:=?_,rj:=?_,rm:=?_,rn:=?_,rf:=?_,rk:=?_,lg:=Nat.lt_of_lt_of_le h.lg hsz,lj:=Nat.lt_of_lt_of_le h.lj hsz,ln:=Nat.lt_of_lt_of_le h.ln hsz }⟩
 · have hc:Qg w' M.g 10 (gF M l ds ctx fv k):=⟨fun j hj=>(World.cell?_of_block (w:=w) (a:=⟨M.g,j,none⟩) (hg.block M.g h.lg (hnf _ Yx))).trans (h.cells.1 j hj),fun j=>(World.frozen?_of_block (w:=w) (a:=⟨M.g,j,none⟩) (hg.block M.g h.lg (hnf _ Yx))).trans (h.cells.2 j)⟩
   exact hc.set Y1 v' fun j hj=>Qv4 M l ds ctx fv v' k _ rfl rfl rfl j
 · exact Ysh
 · exact cof _ _ _ h.ln Yt (ne _ Yt) h.notes
 · exact h.kept.of_block (hbl _ h.kept.lt Yu (ne _ Yu))
 · exact Yrr
 · rw[List.length_append];exact Q6h hown _ hvg
 · simp[h.stk]
 · exact Yn7
 · simp only[List.length_append,List.length_singleton];omega
 · exact (hro _ h.lg).trans h.rg
 · exact (hro _ h.lj).trans h.rj
 · exact (hro _ h.kept.lt).trans h.rm
 · exact (hro _ h.ln).trans h.rn
 · intro b hb;simp only[hb,if_true]
 · intro i b hb;exact (hro _ ((h.rows i).lt b hb).2).trans (h.rk i b hb)
theorem pop {q:Fm × Value}{gq cap:Nat}(h:Q1x w0 w M l ds ctx k ρ f mm (.slice (some ⟨gq,0,none⟩) (fs.length+1) cap) (fs++[q])) :
 Q1x w0 (w.setCell ⟨M.g,5,none⟩ (.slice (some ⟨gq,0,none⟩) fs.length cap)) M l ds ctx { k with stk:=(fs.map (·.1)).reverse } ρ f mm (.slice (some ⟨gq,0,none⟩) fs.length cap) fs:=by
 have ne:∀ b,ρ b≠1→b≠M.g:=fun b hb e=>hb Yr
 have hgq:ρ gq=5:=h.rf gq rfl;have hbl:∀ b,b≠M.g→(w.setCell ⟨M.g,5,none⟩ (.slice (some ⟨gq,0,none⟩) fs.length cap)).heap[b]?=w.heap[b]?:=fun b hb=>Below.heap_setCell _ _ _ _ hb
 have cof:∀ b n (f:Nat→Value),b≠M.g→Qg w b n f→Qg (w.setCell ⟨M.g,5,none⟩ (.slice (some ⟨gq,0,none⟩) fs.length cap)) b n f:=fun b n f hng hc=>hc.other hng
 have hrow:=h.row;rw[List.length_append,List.length_singleton] at hrow;refine { h with below:=h.below.setCell h.bg _,cells:=?_,joints:=?_,notes:=?_,kept:=?_,rows:=?_,row:=?_,stk:=rfl,left:=?_,room:=?_,rf:=?_,lg:=by simpa using h.lg,lj:=by simpa using h.lj,ln:=by simpa using h.ln }
 · exact h.cells.set Y1 _ fun j hj=>Qv4 M l ds ctx _ _ k _ rfl rfl rfl j
 · exact Qi.cells.2 (cof _ _ _ (ne _ Ys) (Qi.cells.1 h.joints))
 · exact cof _ _ _ (ne _ Yt) h.notes
 · exact h.kept.of_block (hbl _ (ne _ Yu))
 · exact fun i=>Qv (h.rows i) fun b hb=>hbl b (ne _ Yv)
 · have h2:=Q64 hrow (show fs.length≤fs.length+1 from Y1)
   rw[Q2f,List.take_append_of_le_length (by rw[Q1z];exact Nat.le_refl _),List.take_of_length_le (by rw[Q1z];exact Nat.le_refl _)] at h2;exact Q6h h2 _ (fun e=>ne gq (by rw[hgq];decide) (by simpa[Value.ownBlock] using e))
 · intro q' hq
   exact Ys6
 · have:=h.room;simp only[List.length_append,List.length_singleton] at this;show mm+fs.length≤k.steps;omega
 · intro b hb;exact h.rf b hb
theorem setl {fm:Fm}{lv lv':Value}{ws:List Wy}{gq cap:Nat}(h:Q1x w0 w M l ds ctx k ρ f mm (.slice (some ⟨gq,0,none⟩) (fs.length+1) cap) (fs++[(fm,lv)]))(hl:Q1w w ρ lv' ws) :
 Q1x w0 (w.setCell ⟨gq,fs.length*591+590,none⟩ lv') M l ds ctx { k with stk:={ fm with left:=ws } :: (fs.map (·.1)).reverse } ρ f mm (.slice (some ⟨gq,0,none⟩) (fs.length+1) cap) (fs++[({ fm with left:=ws },lv')]):=by
 have hgq:ρ gq=5:=h.rf gq rfl;have ne:∀ b,ρ b≠5→b≠gq:=fun b hb e=>hb (by rw[e];exact hgq)
 have hbl:∀ b,b≠gq→(w.setCell ⟨gq,fs.length*591+590,none⟩ lv').heap[b]?=w.heap[b]?:=fun b hb=>Below.heap_setCell _ _ _ _ hb
 have hrow:=h.row;rw[List.length_append,List.length_singleton] at hrow;refine { h with below:=h.below.setCell (hrow.lt gq rfl).1 _,cells:=?_,joints:=?_,notes:=?_,kept:=?_,rows:=?_,row:=?_,stk:=by simp,left:=?_,room:=?_,lg:=by simpa using h.lg,lj:=by simpa using h.lj,ln:=by simpa using h.ln }
 · exact (h.cells.other (ne _ Yx)).congr fun j hj=>by unfold gF;rcases j with _|_|_|_|_|_|_|_|_|j<;>rfl
 · exact Qi.other h.joints (ne _ Ys)
 · exact h.notes.other (ne _ Yt)
 · exact h.kept.of_block (hbl _ (ne _ Yu))
 · exact fun i=>Qv (h.rows i) fun b hb=>hbl b (ne _ Yv)
 · have h2:=Qxk (u:=lv') (j:=fs.length*591+590) hrow (by rw[Q1z,List.length_append,List.length_singleton];omega)
   rw[Q9m] at h2;rw[List.length_append,List.length_singleton];exact h2
 · intro q' hq
   rw[List.mem_append] at hq;rcases hq with hq|hq
   · exact Ys6
   · simp only[List.mem_singleton] at hq
     subst hq;exact hl.other fun b hb hlt=>hbl b (ne _ Yw)
 · have:=h.room;simpa using this
end Q1x
end Hk
namespace Hk
def Q45 (ns:Nat→Nt)(a:Nat)(x:Nt):Nat→Nt:=fun j=>if j=a then x else ns j
theorem Qia (ns:Nat→Nt)(a:Nat):Q45 ns a (ns a)=ns:=by
 funext j
 unfold Q45;split
 · rename_i e;rw[e]
 · rfl
theorem Qw8 {ns:Nat→Nt}{a:Nat}(g:Nt→Nt):(fun j=>if j=a then g (ns j) else ns j)=Q45 ns a (g (ns a)):=by
 funext j
 unfold Q45;split
 · rename_i e;rw[e]
 · rfl
theorem Qfr {w:World}{B e k n:Nat}{v:Value}{xs:List Value}(h:w.ownsRow B e k v n xs):v.cells=#[v]:=by
 exact Ysn
theorem Qxl {w:World}{B e k n:Nat}{v:Value}{xs:List Value}(h:w.ownsRow B e k v n xs):v.oneCell'=true:=by
 exact Ysn
namespace Q1x
variable {w0 w w' : World} {M : Mb} {l : List In} {ds : List Df} {ctx : Int} {k k' : Lk} {ρ : Nat → Nat} {f : Nat → Value} {mm : Nat} {fv : Value} {fs : List (Fm × Value)} {a : Nat} {x x' : Nt}
theorem gs (h:Q1x w0 w M l ds ctx k ρ f mm fv fs):w.cell? ⟨M.g,0,none⟩=some (.slice (some ⟨M.lb,0,none⟩) l.length M.lc)∧w.cell? ⟨M.g,1,none⟩=some (.slice M.p ds.length M.dc)∧w.cell? ⟨M.g,2,none⟩=some (.int .i64 ctx) ∧
 w.cell? ⟨M.g,3,none⟩=some (.slice (some ⟨M.jb,0,none⟩) l.length M.jc)∧w.cell? ⟨M.g,4,none⟩=some (.map (some M.mb))∧w.cell? ⟨M.g,5,none⟩=some fv∧w.cell? ⟨M.g,6,none⟩=some (.int .i64 k.code)∧w.cell? ⟨M.g,7,none⟩=some (.int .i64 k.vat) ∧
 w.cell? ⟨M.g,8,none⟩=some (.int .i64 k.steps)∧w.cell? ⟨M.g,9,none⟩=some (.slice (some ⟨M.nb,0,none⟩) l.length M.nc) :=
 ⟨h.cells.1 0 Y1,h.cells.1 1 Y1,h.cells.1 2 Y1,h.cells.1 3 Y1,h.cells.1 4 Y1,h.cells.1 5 Y1,h.cells.1 6 Y1,h.cells.1 7 Y1,h.cells.1 8 Y1,h.cells.1 9 Y1⟩
theorem insW (h:Q1x w0 w M l ds ctx k ρ f mm fv fs):Q14 w M.lb l:=h.ins.keep h.below
theorem defsW (h:Q1x w0 w M l ds ctx k ρ f mm fv fs):Q1s w M.p ds:=h.defs.keep h.below
theorem note0 (h:Q1x w0 w M l ds ctx k ρ f mm fv fs)(a:Nat):Q1x w0 w M l ds ctx { k with notes:=Q45 k.notes a (k.notes a) } ρ f mm fv fs:=by rw[Qia];exact h
theorem noteC (h:Q1x w0 w M l ds ctx { k with notes:=Q45 k.notes a x } ρ f mm fv fs)(ha:a<l.length){i:Nat}(hi:i<10):w.cell? ⟨M.nb,a*10+i,none⟩=some (x.cell i):=by
 have:=h.notes.1 (a*10+i) Y1;rw[this];unfold Q9c;rw[show (a*10+i) / 10=a from Y1,show (a*10+i) % 10=i from Y1];show some ((Q45 k.notes a x a).cell i)=_;unfold Q45;rw[if_pos rfl]
theorem noteS (h:Q1x w0 w M l ds ctx { k with notes:=Q45 k.notes a x } ρ f mm fv fs)(ha:a<l.length){i:Nat}(hi:i<10){u:Value}(hx:∀ j,j<10→x'.cell j=if j=i then u else x.cell j) :
 Q1x w0 (w.setCell ⟨M.nb,a*10+i,none⟩ u) M l ds ctx { k with notes:=Q45 k.notes a x' } ρ f mm fv fs:=by
 refine h.setn (Fr2.set (Fr2.refl _ _ _)) (Q45 k.notes a x') (h.notes.set Y1 u fun j hj=>?_);show (Q45 k.notes a x' (j / 10)).cell (j % 10)=if j=a*10+i then u else (Q45 k.notes a x (j / 10)).cell (j % 10)
 unfold Q45;by_cases e:j / 10=a
 · rw[if_pos e,if_pos e,hx _ Y1]
   by_cases e2:j=a*10+i
   · rw[if_pos e2,if_pos Y1]
   · rw[if_neg e2,if_neg Y1]
 · rw[if_neg e,if_neg e,if_neg Y1]
theorem noteCs (h:Q1x w0 w M l ds ctx { k with notes:=Q45 k.notes a x } ρ f mm fv fs)(ha:a<l.length):w.cell? ⟨M.nb,a*10,none⟩=some (.bool x.been)∧w.cell? ⟨M.nb,a*10+1,none⟩=some (.bool x.goes)∧w.cell? ⟨M.nb,a*10+2,none⟩=some (.bool x.hops) ∧
 w.cell? ⟨M.nb,a*10+3,none⟩=some (.int .u8 x.v.k)∧w.cell? ⟨M.nb,a*10+4,none⟩=some (.int .u64 (N x.v.f.t.v))∧w.cell? ⟨M.nb,a*10+5,none⟩=some (.int .u64 (N x.v.f.t.m)) ∧
 w.cell? ⟨M.nb,a*10+6,none⟩=some (.int .u64 (N x.v.f.s.lo))∧w.cell? ⟨M.nb,a*10+7,none⟩=some (.int .u64 (N x.v.f.s.hi))∧w.cell? ⟨M.nb,a*10+8,none⟩=some (.int .i64 x.v.i)∧w.cell? ⟨M.nb,a*10+9,none⟩=some (.int .i64 x.v.off) :=
 ⟨h.noteC ha (i:=0) Y1,h.noteC ha (i:=1) Y1,h.noteC ha (i:=2) Y1,h.noteC ha (i:=3) Y1,h.noteC ha (i:=4) Y1,h.noteC ha (i:=5) Y1,h.noteC ha (i:=6) Y1,h.noteC ha (i:=7) Y1,h.noteC ha (i:=8) Y1,h.noteC ha (i:=9) Y1⟩
theorem noteBeen (h:Q1x w0 w M l ds ctx { k with notes:=Q45 k.notes a x } ρ f mm fv fs)(ha:a<l.length)(b:Bool):Q1x w0 (w.setCell ⟨M.nb,a*10,none⟩ (.bool b)) M l ds ctx { k with notes:=Q45 k.notes a ⟨b,x.goes,x.hops,x.v⟩ } ρ f mm fv fs :=
 h.noteS ha (i:=0) Y1 fun j hj=>by rcases j with _|_|_|j<;>rfl
theorem noteGoes (h:Q1x w0 w M l ds ctx { k with notes:=Q45 k.notes a x } ρ f mm fv fs)(ha:a<l.length)(b:Bool):Q1x w0 (w.setCell ⟨M.nb,a*10+1,none⟩ (.bool b)) M l ds ctx { k with notes:=Q45 k.notes a ⟨x.been,b,x.hops,x.v⟩ } ρ f mm fv fs :=
 h.noteS ha (i:=1) Y1 fun j hj=>by rcases j with _|_|_|j<;>rfl
theorem noteHops (h:Q1x w0 w M l ds ctx { k with notes:=Q45 k.notes a x } ρ f mm fv fs)(ha:a<l.length)(b:Bool):Q1x w0 (w.setCell ⟨M.nb,a*10+2,none⟩ (.bool b)) M l ds ctx { k with notes:=Q45 k.notes a ⟨x.been,x.goes,b,x.v⟩ } ρ f mm fv fs :=
 h.noteS ha (i:=2) Y1 fun j hj=>by rcases j with _|_|_|j<;>rfl
theorem noteVal (h:Q1x w0 w M l ds ctx { k with notes:=Q45 k.notes a x } ρ f mm fv fs)(ha:a<l.length)(v:Vl):Q1x w0 (((((((w.setCell ⟨M.nb,a*10+3,none⟩ (.int .u8 v.k)).setCell ⟨M.nb,a*10+4,none⟩ (.int .u64 (N v.f.t.v))).setCell ⟨M.nb,a*10+5,none⟩ (.int .u64 (N v.f.t.m))).setCell ⟨M.nb,a*10+6,none⟩ (.int .u64 (N v.f.s.lo))).setCell ⟨M.nb,a*10+7,none⟩ (.int .u64 (N v.f.s.hi))).setCell ⟨M.nb,a*10+8,none⟩ (.int .i64 v.i)).setCell ⟨M.nb,a*10+9,none⟩ (.int .i64 v.off)) M l ds ctx { k with notes:=Q45 k.notes a ⟨x.been,x.goes,x.hops,v⟩ } ρ f mm fv fs:=by
 have h3:=h.noteS ha (i:=3) (x':=⟨x.been,x.goes,x.hops,⟨v.k,x.v.f,x.v.i,x.v.off⟩⟩) (u:=.int .u8 v.k) Y1 fun j hj=>by rcases j with _|_|_|_|j<;>first|rfl|(simp[Nt.cell,Vl.cell];done)|(rcases j with _|_|_|_|_|_|j<;>first|rfl|(simp[Nt.cell,Vl.cell];done))
 have h4:=h3.noteS ha (i:=4) (x':=⟨x.been,x.goes,x.hops,⟨v.k,⟨⟨v.f.t.v,x.v.f.t.m⟩,x.v.f.s⟩,x.v.i,x.v.off⟩⟩) (u:=.int .u64 (N v.f.t.v)) Y1 fun j hj=>by rcases j with _|_|_|_|_|_|_|_|_|_|j<;>first|rfl|omega
 have h5:=h4.noteS ha (i:=5) (x':=⟨x.been,x.goes,x.hops,⟨v.k,⟨⟨v.f.t.v,v.f.t.m⟩,x.v.f.s⟩,x.v.i,x.v.off⟩⟩) (u:=.int .u64 (N v.f.t.m)) Y1 fun j hj=>by rcases j with _|_|_|_|_|_|_|_|_|_|j<;>first|rfl|omega
 have h6:=h5.noteS ha (i:=6) (x':=⟨x.been,x.goes,x.hops,⟨v.k,⟨⟨v.f.t.v,v.f.t.m⟩,⟨v.f.s.lo,x.v.f.s.hi⟩⟩,x.v.i,x.v.off⟩⟩) (u:=.int .u64 (N v.f.s.lo)) Y1 fun j hj=>by rcases j with _|_|_|_|_|_|_|_|_|_|j<;>first|rfl|omega
 have h7:=h6.noteS ha (i:=7) (x':=⟨x.been,x.goes,x.hops,⟨v.k,⟨⟨v.f.t.v,v.f.t.m⟩,⟨v.f.s.lo,v.f.s.hi⟩⟩,x.v.i,x.v.off⟩⟩) (u:=.int .u64 (N v.f.s.hi)) Y1 fun j hj=>by rcases j with _|_|_|_|_|_|_|_|_|_|j<;>first|rfl|omega
 have h8:=h7.noteS ha (i:=8) (x':=⟨x.been,x.goes,x.hops,⟨v.k,⟨⟨v.f.t.v,v.f.t.m⟩,⟨v.f.s.lo,v.f.s.hi⟩⟩,v.i,x.v.off⟩⟩) (u:=.int .i64 v.i) Y1 fun j hj=>by rcases j with _|_|_|_|_|_|_|_|_|_|j<;>first|rfl|omega
 exact h8.noteS ha (i:=9) (x':=⟨x.been,x.goes,x.hops,v⟩) (u:=.int .i64 v.off) Y1 fun j hj=>by rcases j with _|_|_|_|_|_|_|_|_|_|j<;>first|rfl|omega
theorem keepS2 (h:Q1x w0 w M l ds ctx k ρ f mm fv fs){v':Value}{i:Nat}{s:St}(hi:(k.kept i).length<16)(hown:w'.ownsRow w0.heap.size M.ST 589 v' ((k.kept i).length+1) (Q1q (k.kept i++[s])))(hf:Fr2 M.mb (f i).ownBlock w w')(hat:∀ b,v'.ownBlock=some b→some b=(f i).ownBlock∨w.heap.size≤b)
 (hm:Q5d w' M.mb (.slice none 0 0) (mm+1) (fun j=>if j=i then v' else f j)) (hr:mm+fs.length+1≤k.steps) :
 ∃ ρ',Q1x w0 w' M l ds ctx { k with kept:=fun j=>if j=i then k.kept j++[s] else k.kept j } ρ' (fun j=>if j=i then v' else f j) (mm+1) fv fs:=by
 have hro:∀ b,b<w.heap.size→(if v'.ownBlock=some b then 6+i else ρ b)=ρ b:=fun b hb=>by
  split
  · rename_i e
    rcases hat b e with e2|e2
    · exact (h.rk i b e2.symm).symm
    · omega
  · rfl
 have hnf:∀ b,ρ b≠6+i→some b≠(f i).ownBlock:=fun b hb e=>hb (h.rk i b e.symm)
 have ne:∀ b,ρ b≠3→b≠M.mb:=fun b hb e=>hb (by rw[e];exact h.rm)
 have hbl:∀ b,b<w.heap.size→ρ b≠6+i→b≠M.mb→w'.heap[b]?=w.heap[b]?:=fun b hb h5 hng=>hf.block b hb hng (hnf b h5)
 have hsz:w.heap.size≤w'.heap.size:=hf.size;have hbel2:Below w0.heap.size w0 w':=h.below.trans (hf.below h.below.size h.bm (fun q hq=>((h.rows i).lt q hq).1))
 have cof:∀ b n (f:Nat→Value),b<w.heap.size→ρ b≠6+i→b≠M.mb→Qg w b n f→Qg w' b n f:=fun b n f hb h5 hng hc =>
  ⟨fun j hj=>(World.cell?_of_block (w:=w) (a:=⟨b,j,none⟩) (hbl b hb h5 hng)).trans (hc.1 j hj),fun j=>(World.frozen?_of_block (w:=w) (a:=⟨b,j,none⟩) (hbl b hb h5 hng)).trans (hc.2 j)⟩
 refine⟨fun b=>if v'.ownBlock=some b then 6+i else ρ b,{ h with below:=hbel2,cells:=?_,joints:=?_,notes:=?_,kept:=hm,rows:=?_,row:=?_,left:=?_,room:=?_,len:=?_,rg:=?_,rj:=?_,rm:=?_,rn:=?_,rf:=?_,rk:=?_,lg:=Nat.lt_of_lt_of_le h.lg hsz,lj:=Nat.lt_of_lt_of_le h.lj hsz,ln:=Nat.lt_of_lt_of_le h.ln hsz }⟩
 · exact (cof _ _ _ h.lg (by rw[h.rg];omega) (ne _ Yx) h.cells).congr fun j hj=>by unfold gF;rcases j with _|_|_|_|_|_|_|_|_|j<;>rfl
 · exact Qi.cells.2 (cof _ _ _ h.lj (by rw[h.rj];omega) (ne _ Ys) (Qi.cells.1 h.joints))
 · exact cof _ _ _ h.ln (by rw[h.rn];omega) (ne _ Yt) h.notes
 · intro j
   by_cases hj:j=i
   · subst hj
     simp only[if_true];rw[List.length_append,List.length_singleton];exact hown
   · simp only[if_neg hj]
     exact Qv (h.rows j) fun b hb=>hbl b ((h.rows j).lt b hb).2 (by rw[h.rk j b hb];omega) (ne _ (by rw[h.rk j b hb];omega))
 · exact Qv h.row fun b hb=>hbl b (h.row.lt b hb).2 (by rw[h.rf b hb];omega) (ne _ (by rw[h.rf b hb];decide))
 · intro q hq
   exact ((h.left q hq).role hro).other fun b hb hlt=>hbl b hlt (by rw[hro b hlt] at hb;rw[hb];omega) (ne _ Yy)
 · show mm+1+fs.length≤k.steps;omega
 · intro j
   by_cases hj:j=i
   · subst hj;simp only[if_true,List.length_append,List.length_singleton];omega
   · simp only[if_neg hj];exact h.len j
 · exact (hro _ h.lg).trans h.rg
 · exact (hro _ h.lj).trans h.rj
 · exact (hro _ h.kept.lt).trans h.rm
 · exact (hro _ h.ln).trans h.rn
 · intro b hb;exact (hro _ (h.row.lt b hb).2).trans (h.rf b hb)
 · intro j b hb
   by_cases hj:j=i
   · subst hj
     simp only[if_true] at hb;simp only[hb,if_true]
   · simp only[if_neg hj] at hb
     exact (hro _ ((h.rows j).lt b hb).2).trans (h.rk j b hb)
theorem push2 (h:Q1x w0 w M l ds ctx k ρ f mm fv fs){v':Value}{fm:Fm}{lv:Value}(hown:w'.ownsRow w0.heap.size M.FT 591 v' (fs.length+1) (Q1m (fs++[(fm,lv)])))(hf:Fr2 M.g fv.ownBlock w w')(hc:Qg w' M.g 10 (gF M l ds ctx v' k))(hat:∀ b,v'.ownBlock=some b→some b=fv.ownBlock∨w.heap.size≤b)
 (hl:Q1w w ρ lv fm.left) (hr:mm+fs.length+1≤k.steps):∃ ρ',Q1x w0 w' M l ds ctx { k with stk:=fm :: k.stk } ρ' f mm v' (fs++[(fm,lv)]):=by
 have hro:∀ b,b<w.heap.size→(if v'.ownBlock=some b then 5 else ρ b)=ρ b:=fun b hb=>by
  exact Yrb
 have hnf:∀ b,ρ b≠5→some b≠fv.ownBlock:=fun b hb e=>hb (h.rf b e.symm)
 have hbl:∀ b,b<w.heap.size→ρ b≠5→b≠M.g→w'.heap[b]?=w.heap[b]?:=fun b hb h5 hng=>hf.block b hb hng (hnf b h5)
 have ne:∀ b,ρ b≠1→b≠M.g:=fun b hb e=>hb Yr
 have hsz:w.heap.size≤w'.heap.size:=hf.size;have hbel:Below w0.heap.size w0 w':=h.below.trans (hf.below h.below.size h.bg (fun q hq=>(h.row.lt q hq).1))
 have cof:∀ b n (f:Nat→Value),b<w.heap.size→ρ b≠5→b≠M.g→Qg w b n f→Qg w' b n f:=fun b n f hb h5 hng hc =>
  ⟨fun j hj=>(World.cell?_of_block (w:=w) (a:=⟨b,j,none⟩) (hbl b hb h5 hng)).trans (hc.1 j hj),fun j=>(World.frozen?_of_block (w:=w) (a:=⟨b,j,none⟩) (hbl b hb h5 hng)).trans (hc.2 j)⟩
 refine⟨fun b=>if v'.ownBlock=some b then 5 else ρ b,{ h with below:=hbel,cells:=?_,joints:=?_,notes:=?_,kept:=?_,rows:=?_,row:=?_,stk:=?_,left:=?_,room:=?_,rg:=?_,rj:=?_,rm:=?_,rn:=?_,rf:=?_,rk:=?_,lg:=Nat.lt_of_lt_of_le h.lg hsz,lj:=Nat.lt_of_lt_of_le h.lj hsz,ln:=Nat.lt_of_lt_of_le h.ln hsz }⟩
 · exact hc.congr fun j hj=>by unfold gF;rcases j with _|_|_|_|_|_|_|_|_|j<;>rfl
 · exact Ysh
 · exact cof _ _ _ h.ln Yt (ne _ Yt) h.notes
 · exact h.kept.of_block (hbl _ h.kept.lt Yu (ne _ Yu))
 · exact Yrr
 · rw[List.length_append];exact hown
 · simp[h.stk]
 · exact Yn7
 · simp only[List.length_append,List.length_singleton];omega
 · exact (hro _ h.lg).trans h.rg
 · exact (hro _ h.lj).trans h.rj
 · exact (hro _ h.kept.lt).trans h.rm
 · exact (hro _ h.ln).trans h.rn
 · intro b hb;simp only[hb,if_true]
 · intro i b hb;exact (hro _ ((h.rows i).lt b hb).2).trans (h.rk i b hb)
theorem rerole (h:Q1x w0 w M l ds ctx k ρ f mm fv fs){ρ':Nat→Nat}(hr:∀ b,b<w.heap.size→ρ' b=ρ b):Q1x w0 w M l ds ctx k ρ' f mm fv fs :=
 { h with
  left:=fun q hq=>(h.left q hq).role hr
  rg:=(hr _ h.lg).trans h.rg
  rj:=(hr _ h.lj).trans h.rj
  rm:=(hr _ h.kept.lt).trans h.rm
  rn:=(hr _ h.ln).trans h.rn
  rf:=fun b hb=>(hr _ (h.row.lt b hb).2).trans (h.rf b hb)
  rk:=fun i b hb=>(hr _ ((h.rows i).lt b hb).2).trans (h.rk i b hb) }
theorem setCA (h:Q1x w0 w M l ds ctx k ρ f mm fv fs)(hf:Fr2 M.g none w w'){c:Int}{v:Nat}(h6:w'.cell? ⟨M.g,6,none⟩=some (.int .i64 c))(h7:w'.cell? ⟨M.g,7,none⟩=some (.int .i64 (v:Nat)))
 (ho:∀ j,j<10→j≠6→j≠7→w'.cell? ⟨M.g,j,none⟩=w.cell? ⟨M.g,j,none⟩) (hz:∀ j,w'.frozen? ⟨M.g,j,none⟩=false):Q1x w0 w' M l ds ctx { k with code:=c,vat:=v } ρ f mm fv fs:=by
 refine h.setg hf ⟨fun j hj=>?_,hz⟩ rfl rfl rfl (Nat.le_refl _) h.steps;by_cases e6:j=6
 · subst e6;exact h6
 · by_cases e7:j=7
   · subst e7;exact h7
   · rw[ho j hj e6 e7,h.cells.1 j hj]
     unfold gF;rcases j with _|_|_|_|_|_|_|_|_|j<;>first|rfl|omega
theorem setSteps (h:Q1x w0 w M l ds ctx k ρ f mm fv fs)(hs:k.steps<1024):Q1x w0 (w.setCell ⟨M.g,8,none⟩ (.int .i64 ((k.steps+1:Nat):Int))) M l ds ctx { k with steps:=k.steps+1 } ρ f mm fv fs :=
 h.setg (Fr2.set (Fr2.refl _ _ _)) (h.cells.set Y1 _ fun j hj=>by unfold gF;rcases j with _|_|_|_|_|_|_|_|_|j<;>first|rfl|(rw[if_neg Y1])) rfl rfl rfl (Nat.le_succ _) hs
end Q1x
namespace Co
theorem noteN_no {l:List In}{a:Nat}{ws:List Wy}{n:Nt}(h:((what (l.getD a In.zero)).kind==10)=false):noteN l a ws n=⟨true,n.goes,n.hops,(noteN l a ws n).v⟩:=by unfold noteN;rw[h];rfl
theorem noteN_yes {l:List In}{a:Nat}{ws:List Wy}{n:Nt}(h:((what (l.getD a In.zero)).kind==10)=true):noteN l a ws n=⟨true,n.goes || ws.any (fun y=>y.at_==nextK l a),n.hops || ws.any (fun y=>y.at_==target l a),(noteN l a ws n).v⟩:=by unfold noteN;rw[h];rfl
def goesK (l:List In)(a:Nat)(ws:List Wy)(g:Bool)(j:Nat):Bool:=g || (ws.take j).any (fun y=>y.at_==nextK l a)
def hopsK (l:List In)(a:Nat)(ws:List Wy)(g:Bool)(j:Nat):Bool:=g || (ws.take j).any (fun y=>y.at_==target l a)
theorem Qdz {p:Wy→Bool}{ws:List Wy}{j:Nat}(h:j<ws.length):(ws.take (j+1)).any p=((ws.take j).any p || p ws[j]):=by
 rw[List.take_succ_eq_append_getElem h,List.any_append];simp
theorem goesK_succ {l:List In}{a:Nat}{ws:List Wy}{g:Bool}{j:Nat}(h:j<ws.length):goesK l a ws g (j+1)=(goesK l a ws g j || (ws[j].at_==nextK l a)):=by unfold goesK;rw[Qdz h,Bool.or_assoc]
theorem hopsK_succ {l:List In}{a:Nat}{ws:List Wy}{g:Bool}{j:Nat}(h:j<ws.length):hopsK l a ws g (j+1)=(hopsK l a ws g j || (ws[j].at_==target l a)):=by unfold hopsK;rw[Qdz h,Bool.or_assoc]
theorem leaveK_no {l:List In}{k:Lk}{f:Fm}{r:List Fm}(h:¬ (jointB l f.at_=true∧(k.kept f.at_).length<16)):leaveK l k f r={ k with stk:=r }:=by
 unfold leaveK
 congr 1
 funext j
 rw[if_neg (fun e=>h e.2)]
theorem leaveK_yes {l:List In}{k:Lk}{f:Fm}{r:List Fm}(h1:jointB l f.at_=true)(h2:(k.kept f.at_).length<16):leaveK l k f r={ k with stk:=r,kept:=fun j=>if j=f.at_ then k.kept j++[f.s] else k.kept j }:=by
 unfold leaveK
 congr 1
 funext j
 by_cases e:j=f.at_
 · rw[if_pos ⟨e,h1,h2⟩,if_pos e]
 · rw[if_neg (fun q=>e q.1),if_neg e]
theorem statesL_snoc (ss:List St)(s:St):Q1q (ss++[s])=Q1q ss++s.cells.toList:=by rw[Q74];simp[Q1q]
end Co
end Hk
namespace Hk
namespace Co
theorem Qwr (op:BitVec 8):szOf op=1∨szOf op=2∨szOf op=4∨szOf op=8:=by
 unfold szOf;split
 · exact .inr (.inr (.inl rfl))
 · split
   · exact .inr (.inl rfl)
   · split
     · exact .inl rfl
     · exact .inr (.inr (.inr rfl))
theorem Q6j (x:In):(movesW x).kind=5∨(movesW x).kind=6∨(movesW x).kind=7∨(movesW x).kind=8∨(movesW x).kind=0:=by
 unfold movesW
 repeat' split
 all_goals simp
theorem Qbw (x:In):(movesW x).size=szOf x.op:=by
 unfold movesW
 repeat' split
 all_goals rfl
theorem Q48 (x:In):(jumpsW x).kind=9∨(jumpsW x).kind=10∨(jumpsW x).kind=11∨(jumpsW x).kind=12:=by
 unfold jumpsW
 repeat' split
 all_goals simp[kindW,brW]
theorem Q7d (x:In):(wideW x).kind=3∨(wideW x).kind=4∨(wideW x).kind=0:=by
 unfold wideW
 repeat' split
 all_goals simp[Wh.none]
theorem Qao {x:In}(h:whatB x=true):(what x=wideW x∧wide2 x=true∧wideB x=true)∨(what x=swapsW x∧swapsB x=true)∨(what x=arithW x∧arithB x=true)∨(what x=jumpsW x∧jumpsB x=true)∨(what x=movesW x∧movesB x=true):=by
 have e:what x=whatW x:=by unfold what;rw[if_pos h]
 rw[e];unfold whatB at h;unfold whatW;split at h
 · cases h
 rename_i h0;rw[if_neg h0];split at h
 · rename_i h1;rw[if_pos h1];exact .inl ⟨rfl,h1,h⟩
 rename_i h1;rw[if_neg h1];split at h
 · rename_i h2;rw[if_pos h2];exact .inr (.inl ⟨rfl,h⟩)
 rename_i h2;rw[if_neg h2];split at h
 · rename_i h3;rw[if_pos h3];exact .inr (.inr (.inl ⟨rfl,h⟩))
 rename_i h3;rw[if_neg h3];split at h
 · rename_i h4;rw[if_pos h4];exact .inr (.inr (.inr (.inl ⟨rfl,h⟩)))
 rename_i h4;rw[if_neg h4];split at h
 · cases h
 rename_i h5;rw[if_neg h5];exact .inr (.inr (.inr (.inr ⟨rfl,h⟩)))
theorem kind_wide {x:In}(h:whatB x=true)(hk:(what x).kind=3∨(what x).kind=4):wide2 x=true∧what x=wideW x∧wideB x=true:=by
 rcases Qao h with ⟨e,h1,h2⟩|⟨e,_⟩|⟨e,_⟩|⟨e,_⟩|⟨e,_⟩
 · exact⟨h1,e,h2⟩
 · rw[e] at hk;simp[swapsW] at hk
 · rw[e] at hk;simp[arithW] at hk
 · rw[e] at hk;have:=Q48 x;omega
 · rw[e] at hk;have:=Q6j x;omega
theorem kind_table {x:In}(h:whatB x=true)(hk:(what x).kind=4):0≤I32 x.imm:=by
 obtain⟨_,e,hb⟩:=kind_wide h (.inr hk);unfold wideB at hb;rw[e] at hk;unfold wideW at hk;split at hb
 · rename_i h1
   rw[if_pos h1] at hk;simp at hk
 · split at hb
   · simp only[Bool.and_eq_true,decide_eq_true_eq] at hb;exact hb.2
   · cases hb
theorem kind_swaps {x:In}(h:whatB x=true)(hk:(what x).kind=2):(what x).size=2∨(what x).size=4∨(what x).size=8:=by
 rcases Qao h with ⟨e,h1,h2⟩|⟨e,hb⟩|⟨e,_⟩|⟨e,_⟩|⟨e,_⟩
 · rw[e] at hk;have:=Q7d x;omega
 · rw[e]
   unfold swapsB at hb;simp only[Bool.and_eq_true,Bool.or_eq_true,beq_iff_eq] at hb;unfold swapsW;simp only;rcases hb.2 with (h1|h1)|h1
   · rw[h1];exact .inl rfl
   · rw[h1];exact .inr (.inl rfl)
   · rw[h1];exact .inr (.inr rfl)
 · rw[e] at hk;simp[arithW] at hk
 · rw[e] at hk;have:=Q48 x;omega
 · rw[e] at hk;have:=Q6j x;omega
theorem kind_moves {x:In}(h:whatB x=true)(hk:(what x).kind=5∨(what x).kind=6∨(what x).kind=7∨(what x).kind=8):(what x).size=1∨(what x).size=2∨(what x).size=4∨(what x).size=8:=by
 rcases Qao h with ⟨e,h1,h2⟩|⟨e,_⟩|⟨e,_⟩|⟨e,_⟩|⟨e,_⟩
 · rw[e] at hk;have:=Q7d x;omega
 · rw[e] at hk;simp[swapsW] at hk
 · rw[e] at hk;simp[arithW] at hk
 · rw[e] at hk;have:=Q48 x;omega
 · rw[e,Qbw];exact Qwr x.op
end Co
structure Q78 (X:Sx):Prop where
 good:Co.good X.l=true
 lt:X.at_<X.l.length
 st:Co.start X.l X.at_=true
 x:X.x=X.l.getD X.at_ In.zero
 w:X.w=Co.what X.x
 given:Co.givenB X.ds X.ctx=true
 right:X.s.right=true
namespace Q78
variable {X : Sx}
theorem len (h:Q78 X):X.l.length≤512:=(Co.good_facts h.good).1.2
theorem len5 (h:Q78 X):X.l.length≤100000:=by have:=h.len;omega
theorem whole (h:Q78 X):Co.whole X.l X.at_=true:=by
 have:=(Co.good_facts h.good).2.1 X.at_ h.lt;unfold Co.bad1 at this;rw[h.st] at this;simpa using this
theorem wb (h:Q78 X):Co.whatB X.x=true:=by
 have:=h.whole;unfold Co.whole at this;simp only[Bool.and_eq_true] at this;rw[h.x];exact this.1
theorem more (h:Q78 X)(hk:X.w.kind=3):X.at_+1<X.l.length:=by
 have h2:=(Co.kind_wide h.wb (.inl (by rw[← h.w];exact hk))).1;have:=h.whole;unfold Co.whole at this;simp only[Bool.and_eq_true] at this;rw[← h.x,h2] at this;simp only[Bool.not_true,Bool.false_or,Bool.and_eq_true,decide_eq_true_eq] at this;exact this.2.1
theorem dst (h:Q78 X):X.x.dst.toNat<11:=by
 have:=(Co.whatB_regs h.wb).1;rw[BitVec.le_def] at this;simp at this;omega
theorem src (h:Q78 X):X.x.src.toNat<11:=by
 have:=(Co.whatB_regs h.wb).2;rw[BitVec.le_def] at this;simp at this;omega
theorem ctx (h:Q78 X):0≤X.ctx∧X.ctx≤64:=by
 have:=h.given;unfold Co.givenB at this;simp only[Bool.and_eq_true,decide_eq_true_eq] at this;omega
theorem may (h:Q78 X):∀ d∈X.ds,Co.mayB d=true:=by
 have:=h.given;unfold Co.givenB Co.defsB at this;simp only[Bool.and_eq_true,decide_eq_true_eq,List.all_eq_true] at this;exact this.1.1.2
theorem dlen (h:Q78 X):X.ds.length≤8:=by
 have:=h.given;unfold Co.givenB Co.defsB at this;simp only[Bool.and_eq_true,decide_eq_true_eq,List.all_eq_true] at this;exact this.1.1.1
theorem ds (h:Q78 X):∀ d∈X.ds,0≤d.val∧d.val≤64:=fun d hd=>by
 have:=h.may d hd;unfold Co.mayB at this;simp only[Bool.and_eq_true,decide_eq_true_eq] at this;omega
theorem key (h:Q78 X):∀ d∈X.ds,0≤d.key∧d.key≤16:=fun d hd=>by
 have:=h.may d hd;unfold Co.mayB Co.keyB at this;simp only[Bool.and_eq_true,decide_eq_true_eq] at this;have h2:=this.1.1.1.1.1;split at h2
 · simp only[Bool.and_eq_true,decide_eq_true_eq] at h2;omega
 · simp at h2;omega
theorem reg (h:Q78 X){i:Nat}(hi:i<11):(0≤(X.s.r i).i∧(X.s.r i).i≤7)∧(-2097152≤(X.s.r i).off∧(X.s.r i).off≤2097152):=by
 have:=Vl.right_bounds (St.right_r h.right hi);omega
theorem imm (h:Q78 X)(hk:X.w.kind=4):0≤I32 X.x.imm:=Co.kind_table h.wb (by rw[← h.w];exact hk)
theorem swaps (h:Q78 X)(hk:X.w.kind=2):X.w.size=2∨X.w.size=4∨X.w.size=8:=by rw[h.w] at hk ⊢;exact Co.kind_swaps h.wb hk
theorem moves (h:Q78 X)(hk:X.w.kind=5∨X.w.kind=6∨X.w.kind=7∨X.w.kind=8):X.w.size=1∨X.w.size=2∨X.w.size=4∨X.w.size=8:=by rw[h.w] at hk ⊢;exact Co.kind_moves h.wb hk
end Q78
end Hk
namespace Hk
namespace Co
def nrm (X:Sx):Sx:=⟨0,0,X.l,none,0,X.ds,X.ctx,X.at_,X.x,X.w,X.s⟩
theorem Q8u (X:Sx):∀ (L:List Int) (i:Nat) (y:Df),toldL (nrm X) L i y=toldL X L i y
 | [],_,_=>rfl
 | k :: r,i,y=>by
   unfold toldL;rw[Q8u X r];rfl
theorem Q8v (X:Sx):toldA (nrm X)=toldA X:=by
 unfold toldA;rw[Q8u];rfl
theorem Ql7 (X:Sx):callW (nrm X)=callW X:=by
 unfold callW;rw[Q8v];rfl
theorem Qh5 (X:Sx):aheadR (nrm X)=aheadR X:=by
 unfold aheadR;rw[Ql7,Q8v];rfl
theorem stepR_yes {X:Sx}(hO:Q78 X)(hf:X.s.r 10=frV):stepR X.l X.ds X.ctx X.at_ X.s=aheadR X:=by
 have hB:stepB X.l X.ds X.ctx X.at_ X.s=true:=by
  unfold stepB;rw[hO.good,hO.given,hO.right,hO.st];simp[hO.lt,hf]
 unfold stepR;rw[if_pos hB,← Qh5 X];unfold mkX nrm;rw[← hO.x,← hO.w]
theorem stepR_no {l:List In}{ds:List Df}{ctx:Int}{at_:Nat}{s:St}(h:stepB l ds ctx at_ s=false):stepR l ds ctx at_ s=([],1):=by
 unfold stepR;rw[if_neg (by rw[h];simp)]
end Co
end Hk
namespace Hk
namespace Co
theorem Q54 {X:Sx}{v:Vl}{e:Int}{y:Wy}(h:y∈becW X v e):y.at_=nextK X.l X.at_:=by
 unfold becW at h;exact Yso
theorem Qqc {X:Sx}{p v:Vl}{y:Wy}(h:y∈putW X p v):y.at_=nextK X.l X.at_:=by
 unfold putW at h;exact Yso
theorem Ql8 {X:Sx}{y:Wy}(h:y∈callW X):y.at_=nextK X.l X.at_:=by
 unfold callW at h;exact Yso
theorem Qf2 {X:Sx}{p v:Vl}{y:Wy}(h:y∈(storeR X p v).1):y.at_=nextK X.l X.at_:=by
 unfold storeR at h
 repeat' split at h
 all_goals first|exact Qqc h|(simp only[List.mem_singleton] at h;rw[h];rfl)|cases h
theorem Q8m {X:Sx}{n:St}{g:Bool}{t:St}{p:Bool}{y:Wy}(h:y∈waysW X n g t p):(y.at_=nextK X.l X.at_∧g=true)∨y.at_=target X.l X.at_:=by
 unfold waysW at h;rw[List.mem_append] at h;rcases h with h|h
 · split at h
   · rename_i hg;simp only[List.mem_singleton] at h;rw[h];exact .inl ⟨rfl,hg⟩
   · cases h
 · split at h
   · simp only[List.mem_singleton] at h;rw[h];exact .inr rfl
   · cases h
theorem Qcq {X:Sx}{a b:Vl}{y:Wy}(h:y∈branchW X a b):y.at_=nextK X.l X.at_∨y.at_=target X.l X.at_:=by
 unfold branchW zeroW at h
 repeat' split at h
 all_goals first|(rcases Q8m h with h|h;exact .inl h.1;exact .inr h)|cases h
theorem Qh6 {X:Sx}{y:Wy}(h:y∈(aheadR X).1):(y.at_=nextK X.l X.at_∧(X.w.kind==9)=false∧(X.w.kind==12)=false)∨(y.at_=target X.l X.at_∧(X.w.kind=9∨X.w.kind=10)):=by
 unfold aheadR at h;split at h
 · rename_i hk;simp only[beq_iff_eq] at hk;(try dsimp only at h);have h:=Q54 h;exact .inl ⟨h,Yfl⟩
 split at h
 · rename_i _ hk;simp only[beq_iff_eq] at hk;(try dsimp only at h);have h:=Q54 h;exact .inl ⟨h,Yfl⟩
 split at h
 · rename_i _ _ hk;simp only[beq_iff_eq] at hk;(try dsimp only at h);have h:=Q54 h;exact .inl ⟨h,Yfl⟩
 split at h
 · rename_i _ _ _ hk;simp only[beq_iff_eq] at hk;(try dsimp only at h);have h:=Q54 h;exact .inl ⟨h,Yfl⟩
 split at h
 · rename_i _ _ _ _ hk;simp only[beq_iff_eq] at hk
   split at h
   · cases h
   · (try dsimp only at h);have h:=Q54 h;exact .inl ⟨h,Yfl⟩
 split at h
 · rename_i _ _ _ _ _ hk
   simp only[Bool.or_eq_true,beq_iff_eq] at hk;refine .inl ⟨Qf2 h,?_⟩;rcases hk with (hk|hk)|hk<;>rw[hk]<;>exact⟨rfl,rfl⟩
 split at h
 · rename_i _ _ _ _ _ _ hk
   simp only[beq_iff_eq] at hk;rcases Q8m h with h2|h2
   · exact absurd h2.2 Y3
   · exact .inr ⟨h2,.inl hk⟩
 split at h
 · rename_i _ _ _ _ _ _ _ hk
   simp only[beq_iff_eq] at hk;rcases Qcq h with h2|h2
   · exact .inl ⟨h2,Yfl⟩
   · exact .inr ⟨h2,.inr hk⟩
 split at h
 · rename_i _ _ _ _ _ _ _ _ hk
   simp only[beq_iff_eq] at hk;exact .inl ⟨Ql8 h,Yfl⟩
 · cases h
theorem Qpp {l:List In}{ds:List Df}{ctx:Int}{at_:Nat}{s:St}{y:Wy}(h:y∈(stepR l ds ctx at_ s).1):y.at_<l.length∧start l y.at_=true:=by
 unfold stepR at h;split at h
 · rename_i hB
   unfold stepB at hB;simp only[Bool.and_eq_true,decide_eq_true_eq] at hB;obtain⟨⟨⟨⟨⟨hg,hv⟩,hlt⟩,hr⟩,hs⟩,hf⟩:=hB;rcases Qh6 h with ⟨h1,h2,h3⟩|⟨h1,h2⟩
   · rw[h1]
     exact next_lt hg hs h2 h3
   · rw[h1]
     have ht:toB l at_=true:=by
      unfold toB isHop;have e:(what (l.getD at_ In.zero)).kind=(mkX l ds ctx at_ s).w.kind:=rfl;rw[e];rcases h2 with h2|h2<;>rw[h2]<;>rfl
     have:=(hop_target hg hs ht).2;exact⟨start_lt this,this⟩
 · cases h
end Co
end Hk
namespace Hk
namespace Co
theorem allK_nil {l:List In}{ds:List Df}{ctx:Int}{n:Nat}{k:Lk}(h:k.stk=[]):allK l ds ctx n k=(true,k):=by
 cases n with
 | zero=>rfl
 | succ n=>unfold allK;rw[h]
theorem allK_leave {l:List In}{ds:List Df}{ctx:Int}{n:Nat}{k:Lk}{f:Fm}{r:List Fm}(h:k.stk=f :: r)(hl:f.left=[]):allK l ds ctx (n+1) k=allK l ds ctx n (leaveK l k f r):=by
 conv=>lhs;unfold allK
 rw[h];simp only[hl]
theorem allK_enter {l:List In}{ds:List Df}{ctx:Int}{n:Nat}{k:Lk}{f:Fm}{r:List Fm}{y:Wy}{ys:List Wy}(h:k.stk=f :: r)(hl:f.left=y :: ys):allK l ds ctx (n+1) k=if (enterK l ds ctx { k with stk:={ f with left:=ys } :: r } y).1 then allK l ds ctx n (enterK l ds ctx { k with stk:={ f with left:=ys } :: r } y).2 else (false,(enterK l ds ctx { k with stk:={ f with left:=ys } :: r } y).2):=by
 conv=>lhs;unfold allK
 rw[h];simp only[hl];obtain⟨b,k'⟩:=enterK l ds ctx { k with stk:={ f with left:=ys } :: r } y;cases b<;>rfl
theorem Qr0 (g:Lk→Bool × Lk)(e:Bool × Lk):(match e with
 | (true,k)=>g k
 | (false,k)=>(false,k))=if e.1 then g e.2 else (false,e.2):=by
 obtain⟨b,k⟩:=e;cases b<;>rfl
theorem lookK_eq (l:List In)(ds:List Df)(ctx:Int):lookK l ds ctx=if (enterK l ds ctx k0 ⟨0,St.first⟩).1 then allK l ds ctx 5000 (enterK l ds ctx k0 ⟨0,St.first⟩).2 else (false,(enterK l ds ctx k0 ⟨0,St.first⟩).2):=Qr0 (allK l ds ctx 5000) (enterK l ds ctx k0 ⟨0,St.first⟩)
def OkW (l:List In)(k:Lk):Prop:=∀ f∈k.stk,f.at_<l.length∧∀ y∈f.left,y.at_<l.length∧start l y.at_=true
theorem OkW.enter {l:List In}{ds:List Df}{ctx:Int}{k:Lk}{y:Wy}(h:OkW l k)(hy:y.at_<l.length):OkW l (enterK l ds ctx k y).2:=by
 unfold enterK;split
 · exact h
 · split
   · exact h
   · split
     · exact h
     · intro f hf
       simp only[List.mem_cons] at hf;rcases hf with rfl|hf
       · exact⟨hy,fun z hz=>Qpp hz⟩
       · exact h f hf
theorem OkW.leave {l:List In}{k:Lk}{f:Fm}{r:List Fm}(h:OkW l k)(hk:k.stk=f :: r):OkW l (leaveK l k f r):=fun g hg=>h g (by rw[hk];exact List.mem_cons_of_mem _ hg)
theorem OkW.left {l:List In}{k:Lk}{f:Fm}{r:List Fm}{y:Wy}{ys:List Wy}(h:OkW l k)(hk:k.stk=f :: r)(hl:f.left=y :: ys):OkW l { k with stk:={ f with left:=ys } :: r }:=by
 intro g hg;simp only[List.mem_cons] at hg;rcases hg with rfl|hg
 · have h2:=h f (by rw[hk];exact List.mem_cons_self)
   exact⟨h2.1,fun z hz=>h2.2 z (by rw[hl];exact List.mem_cons_of_mem _ hz)⟩
 · exact h g (by rw[hk];exact List.mem_cons_of_mem _ hg)
theorem mu_enter2 {l:List In}{ds:List Df}{ctx:Int}{k:Lk}{f:Fm}{r:List Fm}{y:Wy}{ys:List Wy}(h:k.stk=f :: r)(hl:f.left=y :: ys)(he:(enterK l ds ctx { k with stk:={ f with left:=ys } :: r } y).1=true):muK (enterK l ds ctx { k with stk:={ f with left:=ys } :: r } y).2<muK k :=
 Qqq h hl (by rw[← he])
theorem mu_first {l:List In}{ds:List Df}{ctx:Int}{y:Wy}:muK (enterK l ds ctx k0 y).2≤5000:=by
 have hlen:=stepR_len l ds ctx y.at_ y.s;unfold enterK;split
 · simp[muK,Q9f,k0]
 · split
   · simp[muK,Q9f,k0]
   · split
     · simp[muK,Q9f,k0]
     · unfold muK Q9f k0;simp only[List.map_cons,List.map_nil,List.sum_cons,List.sum_nil];omega
theorem mu_pos {k:Lk}{f:Fm}{r:List Fm}(h:k.stk=f :: r):0<muK k:=by
 unfold muK Q9f;rw[h];simp only[List.map_cons,List.sum_cons];omega
end Co
theorem Q1w.tail {w:World}{ρ:Nat→Nat}{b o n c c':Nat}{y:Wy}{ys:List Wy}{p:Option Addr}(h:Q1w w ρ (.slice (some ⟨b,o,none⟩) n c) (y :: ys))(hp:0<ys.length→p=some ⟨b,o+590,none⟩)(hc:ys.length≤c')(hm:c'≤maxLen):Q1w w ρ (.slice p ys.length c') ys:=by
 obtain⟨q,d,h1,h2,h3,h4,h5⟩:=h.val
 injection h1 with e1 e2 e3
 refine⟨p,c',rfl,hc,hm,fun i hi=>?_,fun hl a ha=>?_⟩
 · obtain⟨b2,o2,hq,hcell⟩:=h4 (i+1) (by simpa using hi)
   rw[← e1] at hq
   injection hq with hq
   injection hq with e4 e5
   refine⟨b,o+590,hp Y1,fun j hj=>?_⟩;have:=hcell j hj;rw[← e4,← e5] at this;simp only[List.getElem_cons_succ] at this;rw[show o+590+i*590+j=o+(i+1)*590+j from Y1];exact this
 · rw[hp hl] at ha
   rw[← Option.some.inj ha];exact h5 Y3 ⟨b,o,none⟩ e1.symm
theorem Q1w.first {w:World}{ρ:Nat→Nat}{v:Value}{y:Wy}{ys:List Wy}(h:Q1w w ρ v (y :: ys)):∃ b o c,v=.slice (some ⟨b,o,none⟩) (ys.length+1) c∧ys.length+1≤c∧c≤maxLen∧b<w.heap.size∧ρ b=0∧∀ j,j<590→w.cell? ⟨b,o+j,none⟩=some (Q7q y.at_ y.s j):=by
 obtain⟨q,d,h1,h2,h3,h4,h5⟩:=h.val;obtain⟨b,o,hq,hcell⟩:=h4 0 Y3;subst hq
 have hc:∀ j,j<590→w.cell? ⟨b,o+j,none⟩=some (Q7q y.at_ y.s j):=fun j hj=>by
  have:=hcell j hj;rw[Nat.zero_mul,Nat.add_zero] at this;exact this
 exact⟨b,o,d,h1,h2,h3,Q1 (hc 0 Y1),h5 Y3 _ rfl,hc⟩
theorem Q1w.empty {w:World}{ρ:Nat→Nat}{v:Value}(h:Q1w w ρ v []):∃ p c,v=.slice p 0 c:=by
 obtain⟨q,d,h1,-⟩:=h.val;exact⟨q,d,h1⟩
end Hk
namespace Hk
def Q8d (w:World)(nv:Value)(n:Nat)(V:Co.Vd):Prop:=(V.has=true→∃ nb nc,nv=.slice (some ⟨nb,0,none⟩) n nc∧nb<w.heap.size∧∀ j,j<n*10→w.cell? ⟨nb,j,none⟩=some (Q9c V.notes j))∧(V.has=false→nv=.slice none 0 0)
theorem Q8d.keep {w w':World}{nv:Value}{n:Nat}{V:Co.Vd}(h:Q8d w nv n V)(hb:Below w.heap.size w w'):Q8d w' nv n V :=
 ⟨fun e=>by obtain⟨nb,nc,h1,h3,h2⟩:=h.1 e;exact⟨nb,nc,h1,Nat.lt_of_lt_of_le h3 hb.size,fun j hj=>Q0 hb (h2 j hj)⟩,h.2⟩
theorem Q8d.own_lt {w:World}{nv:Value}{n:Nat}{V:Co.Vd}(h:Q8d w nv n V):∀ b,nv.ownBlock=some b→b<w.heap.size:=fun b hb=>by
 cases hh:V.has with
 | true =>
   obtain⟨nb,nc,h1,h3,-⟩:=h.1 hh;rw[h1] at hb;have e:nb=b:=Option.some.inj hb;rw[← e];exact h3
 | false=>rw[h.2 hh] at hb;cases hb
theorem Q8d.slice {w:World}{nv:Value}{n:Nat}{V:Co.Vd}(h:Q8d w nv n V):∃ p m c,nv=.slice p m c:=by
 cases hh:V.has with
 | true=>obtain⟨nb,nc,h1,-⟩:=h.1 hh;exact⟨_,_,_,h1⟩
 | false=>exact⟨_,_,_,h.2 hh⟩
theorem Q8d.of_block {w w':World}{nv:Value}{n:Nat}{V:Co.Vd}(h:Q8d w nv n V)(hs:w.heap.size≤w'.heap.size)(hb:∀ b,nv.ownBlock=some b→b<w.heap.size→w'.heap[b]?=w.heap[b]?):Q8d w' nv n V :=
 ⟨fun e=>by
  obtain⟨nb,nc,h1,h3,h2⟩:=h.1 e;refine⟨nb,nc,h1,Nat.lt_of_lt_of_le h3 hs,fun j hj=>?_⟩;rw[← h2 j hj]
  exact World.cell?_of_block (w:=w) (a:=⟨nb,j,none⟩) (hb nb (by rw[h1];rfl) h3),h.2⟩
theorem Q14.of_block {w w':World}{b:Nat}{l:List In}(h:Q14 w b l)(hb:w'.heap[b]?=w.heap[b]?):Q14 w' b l:=fun k hk=>by
 have e:∀ j,w'.cell? ⟨b,j,none⟩=w.cell? ⟨b,j,none⟩:=fun j=>World.cell?_of_block (w:=w) (a:=⟨b,j,none⟩) hb
 simp only[e];exact h k hk
def tF (lb lc:Nat)(p:Option Addr)(dc:Nat)(nv:Value)(ds:List Df)(ctx:Int)(t:Co.Tn2):Nat→Value
 | 0=>.slice (some ⟨lb,0,none⟩) t.l.length lc
 | 1=>.slice p ds.length dc
 | 2=>.int .i64 ctx
 | 3=>.int .i64 t.v.code
 | 4=>.int .i64 t.v.at_
 | 5=>.int .i64 t.v.steps
 | _=>nv
structure Q7m (w0 w:World) (tg:Nat) (p:Option Addr) (dc:Nat) (ds:List Df) (ctx:Int) (n:Nat) (t:Co.Tn2) (lb lc:Nat) (nv:Value):Prop where
 below:Below w0.heap.size w0 w
 bg:w0.heap.size≤tg
 lg:tg<w.heap.size
 cells:Qg w tg 7 (tF lb lc p dc nv ds ctx t)
 ins:Q14 w lb t.l
 cap:t.l.length≤lc
 nlb:lb≠tg
 vd:Q8d w nv t.l.length t.v
 nnv:∀ b,nv.ownBlock=some b→b≠tg
 defs:Q1s w0 p ds
 ok:Co.OkT ds ctx n t
namespace Q7m
variable {w0 w w' : World} {tg : Nat} {p : Option Addr} {dc : Nat} {ds : List Df} {ctx : Int} {n : Nat} {t : Co.Tn2} {lb lc : Nat} {nv : Value}
theorem keep (h:Q7m w0 w tg p dc ds ctx n t lb lc nv)(hb:Below w.heap.size w w'):Q7m w0 w' tg p dc ds ctx n t lb lc nv :=
 { h with
  below:=h.below.trans (hb.mono h.below.size)
  lg:=Nat.lt_of_lt_of_le h.lg hb.size
  cells:=h.cells.keep h.lg hb
  ins:=h.ins.keep hb
  vd:=h.vd.keep hb }
theorem cs (h:Q7m w0 w tg p dc ds ctx n t lb lc nv):w.cell? ⟨tg,0,none⟩=some (.slice (some ⟨lb,0,none⟩) t.l.length lc)∧w.cell? ⟨tg,1,none⟩=some (.slice p ds.length dc)∧w.cell? ⟨tg,2,none⟩=some (.int .i64 ctx)∧w.cell? ⟨tg,3,none⟩=some (.int .i64 t.v.code) ∧
 w.cell? ⟨tg,4,none⟩=some (.int .i64 t.v.at_)∧w.cell? ⟨tg,5,none⟩=some (.int .i64 t.v.steps)∧w.cell? ⟨tg,6,none⟩=some nv :=
 ⟨h.cells.1 0 Y1,h.cells.1 1 Y1,h.cells.1 2 Y1,h.cells.1 3 Y1,h.cells.1 4 Y1,h.cells.1 5 Y1,h.cells.1 6 Y1⟩
theorem defsW (h:Q7m w0 w tg p dc ds ctx n t lb lc nv):Q1s w p ds:=h.defs.keep h.below
theorem turn (h:Q7m w0 w tg p dc ds ctx n t lb lc nv){t':Co.Tn2}{lb' lc':Nat}{nv':Value}(hf:Fr2 tg none w w')(hc:Qg w' tg 7 (tF lb' lc' p dc nv' ds ctx t'))(hi:Q14 w lb' t'.l)(hcap:t'.l.length≤lc')(hl:lb'≠tg)(hll:lb'<w.heap.size)(hv:Q8d w nv' t'.l.length t'.v)(hn:∀ b,nv'.ownBlock=some b→b≠tg)(ho:Co.OkT ds ctx n t') :
 Q7m w0 w' tg p dc ds ctx n t' lb' lc' nv' where
 below:=h.below.trans (hf.below h.below.size h.bg (fun _ e=>Yfk))
 bg:=h.bg
 lg:=Nat.lt_of_lt_of_le h.lg hf.size
 cells:=hc
 ins:=hi.of_block (hf.block _ hll hl Y3)
 cap:=hcap
 nlb:=hl
 vd:=hv.of_block hf.size fun b hb hlt=>hf.block b hlt (hn b hb) Y3
 nnv:=hn
 defs:=h.defs
 ok:=ho
end Q7m
namespace Co
theorem takeT_none {ds:List Df}{ctx:Int}{t:Tn2}{es:List Ed}(h:rewrite t.l es=none):takeT ds ctx t es=t:=by unfold takeT;rw[h]
theorem takeT_long {ds:List Df}{ctx:Int}{t:Tn2}{es:List Ed}{m:List In}(h:rewrite t.l es=some m)(hl:t.l.length<m.length):takeT ds ctx t es=t:=by unfold takeT;rw[h];simp[hl]
theorem takeT_bad {ds:List Df}{ctx:Int}{t:Tn2}{es:List Ed}{m:List In}(h:rewrite t.l es=some m)(hc:((programV m ds ctx).code==0)=false):takeT ds ctx t es=t:=by
 unfold takeT;rw[h];simp only[hc];split<;>rfl
theorem takeT_yes {ds:List Df}{ctx:Int}{t:Tn2}{es:List Ed}{m:List In}(h:rewrite t.l es=some m)(hl:¬ t.l.length<m.length)(hc:((programV m ds ctx).code==0)=true):takeT ds ctx t es=⟨m,programV m ds ctx⟩:=by
 unfold takeT;rw[h];simp[hl,hc]
theorem Q5u {l:List In}{ds:List Df}{ctx:Int}{k:Lk}{y:Wy}(h:(enterK l ds ctx k y).1=false):(enterK l ds ctx k y).2.code≠0:=by
 unfold enterK at h ⊢;split at h
 · cases h
 · rename_i h1
   rw[if_neg h1];split at h
   · rename_i h2;rw[if_pos h2];show (150:Int)≠0;omega
   · rename_i h2
     rw[if_neg h2];split at h
     · rename_i h3;rw[if_pos h3];intro e;have e2:(stepR l ds ctx y.at_ y.s).2=0:=e;rw[e2] at h3;simp at h3
     · cases h
theorem Q5l {l:List In}{ds:List Df}{ctx:Int}:∀ (n:Nat) (k:Lk),(allK l ds ctx n k).1=false→(allK l ds ctx n k).2.code≠0
 | 0,k,h=>by cases h
 | n+1,k,h=>by
   cases hs:k.stk with
   | nil=>rw[allK_nil hs] at h;cases h
   | cons f r =>
     cases hl:f.left with
     | nil =>
       rw[allK_leave hs hl] at h ⊢;exact Q5l n _ h
     | cons y ys =>
       rw[allK_enter hs hl] at h ⊢;cases he:(enterK l ds ctx { k with stk:={ f with left:=ys } :: r } y).1 with
       | true =>
         rw[he] at h;rw[if_pos rfl] at h ⊢;exact Q5l n _ h
       | false =>
         rw[if_neg Y3];exact Q5u he
theorem Qbx {l:List In}{ds:List Df}{ctx:Int}(h:(lookK l ds ctx).1=false):(lookK l ds ctx).2.code≠0:=by
 rw[lookK_eq] at h ⊢;cases he:(enterK l ds ctx k0 ⟨0,St.first⟩).1 with
 | true =>
   rw[he] at h;rw[if_pos rfl] at h ⊢;exact Q5l _ _ h
 | false =>
   rw[if_neg Y3];exact Q5u he
theorem programV_has {l:List In}{ds:List Df}{ctx:Int}(h:(programV l ds ctx).code=0):(programV l ds ctx).has=true:=by
 unfold programV at h ⊢;split at h
 · rename_i hg
   rw[if_pos hg];cases hb:(lookK l ds ctx).1 with
   | true=>rfl
   | false=>exact absurd h (Qbx hb)
 · cases h
end Co
theorem Q8d.notes {w:World}{nv:Value}{l:List In}{V:Co.Vd}(h:Q8d w nv l.length V)(hh:V.has=true):∃ nb nc,nv=.slice (some ⟨nb,0,none⟩) l.length nc∧Q3y w nb (Co.notesL l V)∧(Co.notesL l V).length=l.length:=by
 obtain⟨nb,nc,h1,h3,h2⟩:=h.1 hh;have e:Co.notesL l V=(List.range l.length).map V.notes:=by unfold Co.notesL;rw[hh];rfl
 refine⟨nb,nc,h1,fun k hk j hj=>?_,by rw[e];simp⟩;rw[e] at hk;simp only[List.length_map,List.length_range] at hk;rw[h2 (k*10+j) Y1];unfold Q9c;rw[show (k*10+j) / 10=k from Y1,show (k*10+j) % 10=j from Y1];simp[e]
end Hk
namespace Hk
theorem Q34 (w:World)(b:Nat)(c:Array Value)(n i:Nat)(h:n≠b):(w.setRow b c).cell? ⟨n,i,none⟩=w.cell? ⟨n,i,none⟩:=by rw[Q2h,if_neg h]
theorem Q51 (w:World)(b:Nat)(c:Array Value)(n:Nat)(h:n≠b):blk (w.setRow b c) n=blk w n:=by rw[Q43,if_neg h]
theorem Q2x (w:World)(b:Nat)(c:Array Value)(h:(blk w b).size≠0):blk (w.setRow b c) b=c:=by rw[Q43,if_pos rfl,if_neg h]
end Hk
namespace Hk
theorem Qcs {w:World}{g o n:Nat}{F:Nat→Value}(hn:0<n)(h:∀ j,j<n→w.cell? ⟨g,o+j,none⟩=some (F j)):(blk w g).extract o (o+n)=Q26 n F∧o+n≤(blk w g).size:=by
 have h2:∀ j,j<n→(blk w g)[o+j]?=some (F j):=fun j hj=>by rw[← Q1b];exact h j hj
 have hs:o+n≤(blk w g).size:=by
  have:=(Array.getElem?_eq_some_iff.1 (h2 (n - 1) Y1)).1;omega
 refine⟨?_,hs⟩;apply Array.ext_getElem?;intro j;rw[Qj,Array.getElem?_extract];by_cases hj:j<n
 · rw[if_pos hj,if_pos Y1];exact h2 j hj
 · rw[if_neg hj,if_neg Y1]
theorem Q2z {P:Program}{w:World}{ty:TypeId}{g o n:Nat}{F:Nat→Value}(hn:0<n)(hagg:(isAgg ty).run P w=.ok true w)(hs:(Go.sizeOf ty).run P w=.ok n w)(h:∀ j,j<n→w.cell? ⟨g,o+j,none⟩=some (F j)):(loadVar ty ⟨g,o,none⟩).run P w=.ok (.agg (Q26 n F)) w:=by
 obtain⟨h1,h2⟩:=Qcs hn h;have:=Qu (P:=P) w ty g o n hagg hs h2;rw[this,h1]
theorem Qj1 {w:World}{B:Nat}{e:TypeId}{v:Value}{ss:List St}(h:w.ownsRow B e 589 v ss.length (Q1q ss)){k:Nat}(hk:k<ss.length):∃ g cap,v=.slice (some ⟨g,0,none⟩) ss.length cap∧g<w.heap.size∧B≤g∧ss.length≤cap∧cap≤maxLen∧∀ j,j<589→w.cell? ⟨g,k*589+j,none⟩=some (ss[k].cell j):=by
 obtain⟨g,cap,hv,hB,hg,hn,hm,hc,hf⟩:=Q1h h Y1;exact⟨g,cap,hv,hg,hB,hn,hm,fun j hj=>hc _ _ (Q6c ss k hk j hj)⟩
namespace Co
def idxF (p:Nat→Bool)(n:Nat):Int:=match (List.range n).find? p with
 | some k=>k
 | none=>-1
theorem idxF_some {p:Nat→Bool}{n k:Nat}(hk:k<n)(h:∀ j,j<k→p j=false)(hp:p k=true):idxF p n=k:=by unfold idxF;rw[Qc3 hk h hp]
theorem idxF_none {p:Nat→Bool}{n:Nat}(h:∀ j,j<n→p j=false):idxF p n = -1:=by unfold idxF;rw[Q87 h]
def wiB (s:St)(ss:List St)(k:Nat):Bool:=s.within (ss.getD k St.zero)
theorem idxF_any (s:St)(ss:List St):decide (0≤idxF (wiB s ss) ss.length)=ss.any (fun t=>s.within t):=by
 unfold idxF;cases h:(List.range ss.length).find? (wiB s ss) with
 | none =>
   have h2:ss.any (fun t=>s.within t)=false:=by
    rw[List.any_eq_false];intro t ht;obtain⟨k,hk,rfl⟩:=List.getElem_of_mem ht;have:=List.find?_eq_none.1 h k (List.mem_range.2 hk);unfold wiB at this;rw[List.getD_eq_getElem?_getD,List.getElem?_eq_getElem hk] at this;exact this
   rw[h2];rfl
 | some k =>
   have h1:=List.find?_some h;have h2:=List.mem_range.1 (List.mem_of_find?_eq_some h);unfold wiB at h1;rw[List.getD_eq_getElem?_getD,List.getElem?_eq_getElem h2] at h1;have h3:ss.any (fun t=>s.within t)=true:=List.any_eq_true.2 ⟨ss[k],List.getElem_mem h2,h1⟩;rw[h3];simp
end Co
end Hk
