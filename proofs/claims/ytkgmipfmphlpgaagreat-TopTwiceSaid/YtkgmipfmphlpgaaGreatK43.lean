/- A part of TopTwice; no condition. -/
import Derived.Test.YtkgmipfmphlpgaaGreatK40
import Derived.Lib.SliceRun
open Go Go.RowKit Go.Proofs
set_option linter.all false
set_option maxRecDepth 100000
set_option maxHeartbeats 20000000
namespace Hk
theorem Q13h (x:Int)(w:World):Calls Tryz.prog 194 #[.int .i64 x] w fun e w'=>e=.returned (.bool false)∧w'=w:=by
 go_enter Tryz.func194,Tryz.ntmps194;go_wp2;go_ret;exact⟨by simp,rfl⟩
theorem Qy1 (x y:Int)(w:World):Calls Tryz.prog 173 #[.int .i64 x,.int .i64 y] w fun e w'=>e=.returned (.bool (decide (x<y)))∧w'=w:=by
 go_enter Tryz.func173,Tryz.ntmps173;go_wp2_with (go_at_call 194;refine Y97 ?_);go_ret;exact⟨rfl,rfl⟩
def SrC (a b:Int)(g:Nat)(w:World)(d:Nat→Bool)(ν:Nat→Nat×Nat)(w':World):Prop:=w'.cell? ⟨g,0,none⟩=some (.int .i64 a)∧w'.cell? ⟨g,1,none⟩=some (.int .i64 b)∧(∀ i,w'.frozen? ⟨g,i,none⟩=false)∧0≤w'.heap.size∧Below w.heap.size w w'
theorem Q8f {a b:Int}{g:Nat}{w:World}:KT (SrC a b g w):=by
 exact Yo1
theorem Q8e {a b:Int}{g:Nat}{w:World}:MT (SrC a b g w) []:=by
 intro d d' ν w' hd h;unfold SrC at *;simpa only[true_and] using h
theorem Qrf (v:Value)(n:Int)(hn:n≤1)(w:World):Calls Tryz.prog 167 #[v,.int .i64 0,.int .i64 n] w fun e w'=>e=.returned (.tuple #[])∧w'=w:=by
 have hx:decide (1<n)=false:=Y4;go_enter Tryz.func167,Tryz.ntmps167;go_wp2
 go_loop [6] (fun s6=>s6=.int .i64 1) (fun _=>0)
 case atStart=>rfl
 case round =>
  obtain rfl:=hrel;go_wp2
  go_end0
  exact⟨rfl,rfl⟩
def srt (a b:Int):List Int:=if b<a then [b,a] else [a,b]
theorem Q12s {a b:Int}(h:b<a):[.int .i64 b,.int .i64 a]=(srt a b).map (Value.int .i64):=by unfold srt;rw[if_pos h];rfl
theorem Q12t {a b:Int}(h:¬ b<a):[.int .i64 a,.int .i64 b]=(srt a b).map (Value.int .i64):=by unfold srt;rw[if_neg h];rfl
theorem Qre (g cap B:Nat)(a b:Int)(w:World)(hB:B≤w.heap.size)(hBg:B≤g)(h:w.ownsRow B 3 1 (.slice (some ⟨g,0,none⟩) 2 cap) 2 [.int .i64 (a),.int .i64 (b)]):Calls Tryz.prog 167 #[.slice (some ⟨g,0,none⟩) 2 cap,.int .i64 0,.int .i64 2] w fun e w'=>e=.returned (.tuple #[])∧w'.ownsRow B 3 1 (.slice (some ⟨g,0,none⟩) 2 cap) 2 ((srt a b).map (Value.int .i64))∧Below B w w':=by
 go_enter Tryz.func167,Tryz.ntmps167;go_wp2
 go_loopw [6] (fun s6 wr=>∃ i:Nat,s6=.int .i64 i∧((i=1∧wr.ownsRow B 3 1 (.slice (some ⟨g,0,none⟩) 2 cap) 2 [.int .i64 (a),.int .i64 (b)])∨(i=2∧wr.ownsRow B 3 1 (.slice (some ⟨g,0,none⟩) 2 cap) 2 ((srt a b).map (Value.int .i64))))∧B≤wr.heap.size∧Below B w wr) (fun s6 _=>2-(intOf s6).toNat)
 case atStart =>
  exact⟨1,rfl,.inl ⟨rfl,h⟩,hB,Below.refl _ _⟩
 case round =>
  obtain⟨i,rfl,ho,hBr,hbl⟩:=hrel;clear h;rcases ho with ⟨rfl,ho⟩|⟨rfl,ho⟩
  · go_wp2
    go_loopw [7] (fun s7 wr=>∃ j:Nat,s7=.int .i64 j∧((j=1∧wr.ownsRow B 3 1 (.slice (some ⟨g,0,none⟩) 2 cap) 2 [.int .i64 (a),.int .i64 (b)])∨(j=0∧b<a∧wr.ownsRow B 3 1 (.slice (some ⟨g,0,none⟩) 2 cap) 2 [.int .i64 (b),.int .i64 (a)]))∧B≤wr.heap.size∧Below B w wr) (fun s7 _=>(intOf s7).toNat)
    case atStart =>
     exact⟨1,rfl,.inl ⟨rfl,ho⟩,hBr,hbl⟩
    case round =>
     clear ho hBr hbl;obtain⟨j,rfl,ho,hBr,hbl⟩:=hrel;rcases ho with ⟨rfl,ho⟩|⟨rfl,hlt,ho⟩
     · have c0:wr.cell? ⟨g,0,none⟩=some _:=(ho.cellAt 0 Y1).trans rfl
       have c1:wr.cell? ⟨g,1,none⟩=some _:=(ho.cellAt 1 Y1).trans rfl;have hfz:=fun j=>ho.frozenAt j
       have HO:=Lib.hid ho;clear ho;by_cases hlt:b<a
       · have q0:decide (b<a)=true:=by simp[hlt]
         go_wp2;refine Q2 (SrC a b g wr) [] [] (fun _ c=>.pointer (some ⟨c.1,0,none⟩)) rfl Yc ?_ (fun d d' ν w'=>Q8e d d' ν w') (fun d ν w' w1=>Q8f d ν w' w1) (fun i hi=>Yf0) ?_
         · exact Ymm
         apply Exists.intro;refine⟨fun ν=>?_,?_,?_⟩
         · exact Yt1
         · intro i hi;cases hi
         · intro ν w9 d hd hC
           obtain⟨k0,k1,k2,k3,k4⟩:=hC
           skip
           clear hd;have z0:=Q1 k0;go_wp2
           go_region
           all_goals go_wp2
           all_goals refine⟨⟨0,Yf1,.inr ⟨rfl,hlt,(by first|exact Q1k (((Qd HO.out Yb).stored 1 _).1.stored 0 _).1 rfl rfl|exact Q1k (((Qd HO.out Yb).stored 0 _).1.stored 1 _).1 rfl rfl)⟩,Y15,Yb⟩,by simp[intOf]⟩
       · have q0:decide (b<a)=false:=by simp[hlt]
         go_wp2;refine Q2 (SrC a b g wr) [] [] (fun _ c=>.pointer (some ⟨c.1,0,none⟩)) rfl Yc ?_ (fun d d' ν w'=>Q8e d d' ν w') (fun d ν w' w1=>Q8f d ν w' w1) (fun i hi=>Yf0) ?_
         · exact Ymm
         apply Exists.intro;refine⟨fun ν=>?_,?_,?_⟩
         · exact Yt1
         · intro i hi;cases hi
         · intro ν w9 d hd hC
           obtain⟨k0,k1,k2,k3,k4⟩:=hC
           skip
           clear hd;have z0:=Q1 k0;go_wp2
           go_roundw
           case rel=>exact⟨2,Yf1,.inr ⟨rfl,Q1k (Qd HO.out Yb) rfl (Q12t Y1)⟩,Y15,Yb⟩
           case measure=>simp[intOf]
     · have c0:wr.cell? ⟨g,0,none⟩=some _:=(ho.cellAt 0 Y1).trans rfl
       have c1:wr.cell? ⟨g,1,none⟩=some _:=(ho.cellAt 1 Y1).trans rfl;have hfz:=fun j=>ho.frozenAt j
       have HO:=Lib.hid ho;clear ho;have q1:decide ((0:Int)<0)=false:=rfl;go_wp2;refine Q2 (SrC b a g wr) [] [] (fun _ c=>.pointer (some ⟨c.1,0,none⟩)) rfl Yc ?_ (fun d d' ν w'=>Q8e d d' ν w') (fun d ν w' w1=>Q8f d ν w' w1) (fun i hi=>Yf0) ?_
       · exact Ymm
       apply Exists.intro;refine⟨fun ν=>?_,?_,?_⟩
       · exact Yt1
       · intro i hi;cases hi
       · intro ν w9 d hd hC
         obtain⟨k0,k1,k2,k3,k4⟩:=hC
         skip
         clear hd;have z0:=Q1 k0;go_wp2
         go_roundw
         case rel=>exact⟨2,Yf1,.inr ⟨rfl,Q1k (Qd HO.out Yb) rfl (Q12s hlt)⟩,Y15,Yb⟩
         case measure=>simp[intOf]
  · go_wp2
    go_end0
    exact⟨rfl,ho,hbl⟩
theorem Q153 (x:BitVec 64)(w:World):Calls Tryz.prog 144 #[.int .u64 (N x)] w fun e w'=>∃ k:Int,e=.returned (.int .i64 k)∧w'=w:=by
 go_enter Tryz.func144,Tryz.ntmps144;go_wp2_with (go_at_call 166;refine Y33 ?_);go_ret;exact⟨_,rfl,rfl⟩
theorem Quy (v:Value)(n:Int)(k:Int)(hn0:0≤n)(hn:n≤1)(w:World):Calls Tryz.prog 143 #[v,.int .i64 0,.int .i64 n,.int .i64 k] w fun e w'=>e=.returned (.tuple #[])∧w'=w:=by
 have q:decide (n≤12)=true:=Y4;go_enter Tryz.func143,Tryz.ntmps143;go_wp2
 go_loop [1,2] (fun s1 s2=>s1=.int .i64 0∧s2=.int .i64 n) (fun _ _=>0)
 case atStart=>exact⟨rfl,rfl⟩
 case round =>
  obtain⟨rfl,rfl⟩:=hrel;go_wp2_with (go_at_call 167;refine Y9a ?_);(try simp only[Exit.inBlock,Exit.then]);refine bodyPost_ret (results_none rfl _ _ _) rfl ?_;exact⟨rfl,rfl⟩
theorem Q137 (g cap B:Nat)(a b k:Int)(w:World)(hB:B≤w.heap.size)(hBg:B≤g)(h:w.ownsRow B 3 1 (.slice (some ⟨g,0,none⟩) 2 cap) 2 [.int .i64 (a),.int .i64 (b)]):Calls Tryz.prog 143 #[.slice (some ⟨g,0,none⟩) 2 cap,.int .i64 0,.int .i64 2,.int .i64 k] w fun e w'=>e=.returned (.tuple #[])∧w'.ownsRow B 3 1 (.slice (some ⟨g,0,none⟩) 2 cap) 2 ((srt a b).map (Value.int .i64))∧Below B w w':=by
 go_enter Tryz.func143,Tryz.ntmps143;go_wp2
 go_loop [1,2] (fun s1 s2=>s1=.int .i64 0∧s2=.int .i64 2) (fun _ _=>0)
 case atStart=>exact⟨rfl,rfl⟩
 case round =>
  obtain⟨rfl,rfl⟩:=hrel;go_wp2_with (go_at_call 167;refine Y9c ?_;intro w1 hown1 hb1);(try simp only[Exit.inBlock,Exit.then]);refine bodyPost_ret (results_none rfl _ _ _) rfl ?_;exact⟨rfl,hown1,hb1⟩
theorem Qwu (p:Option Addr)(c:Nat)(w:World):Calls Tryz.prog 101 #[.slice p 0 c] w fun e w'=>e=.returned (.tuple #[])∧w'=w:=by
 go_enter Tryz.func101,Tryz.ntmps101;go_wp2_with ((with_reducible apply ic);first|(refine Y9e ?_;intro kb)|(go_at_call 143;(with_reducible refine (Quy _ 0 _ Y1 Y1 _).mono ?_);refine Y32 ?_))
 go_end0
 exact⟨rfl,rfl⟩
theorem Qwt (p:Option Addr)(c:Nat)(w:World):Calls Tryz.prog 101 #[.slice p 1 c] w fun e w'=>e=.returned (.tuple #[])∧w'=w:=by
 go_enter Tryz.func101,Tryz.ntmps101;go_wp2_with ((with_reducible apply ic);first|(refine Y9e ?_;intro kb)|(go_at_call 143;(with_reducible refine (Quy _ 1 _ Y1 Y1 _).mono ?_);refine Y32 ?_))
 go_end0
 exact⟨rfl,rfl⟩
theorem Qws (g cap B:Nat)(a b:Int)(w:World)(hB:B≤w.heap.size)(hBg:B≤g)(h:w.ownsRow B 3 1 (.slice (some ⟨g,0,none⟩) 2 cap) 2 [.int .i64 (a),.int .i64 (b)]):Calls Tryz.prog 101 #[.slice (some ⟨g,0,none⟩) 2 cap] w fun e w'=>e=.returned (.tuple #[])∧w'.ownsRow B 3 1 (.slice (some ⟨g,0,none⟩) 2 cap) 2 ((srt a b).map (Value.int .i64))∧Below B w w':=by
 go_enter Tryz.func101,Tryz.ntmps101;go_wp2_with ((with_reducible apply ic);first|(refine Y9e ?_;intro kb)|(go_at_call 143;(with_reducible refine (Q137 _ _ _ _ _ _ _ hB hBg h).mono ?_);refine Y9b ?_;intro w1 hown1 hb1))
 go_end0
 exact⟨rfl,hown1,hb1⟩
theorem Qgy (p:Option Addr)(c:Nat)(w:World):Calls Tryz.prog 102 #[.slice p 0 c] w fun e w'=>e=.returned (.slice p 0 c)∧w'=w:=by
 go_enter Tryz.func102,Tryz.ntmps102;go_wp2;go_ret;exact⟨rfl,rfl⟩
theorem Qgx (p:Option Addr)(c:Nat)(w:World):Calls Tryz.prog 102 #[.slice p 1 c] w fun e w'=>e=.returned (.slice p 1 c)∧w'=w:=by
 go_enter Tryz.func102,Tryz.ntmps102;go_wp2;go_ret;exact⟨rfl,rfl⟩
def SqC (a b:Int)(g:Nat)(w:World)(d:Nat→Bool)(ν:Nat→Nat×Nat)(w':World):Prop:=w'.cell? ⟨g,0,none⟩=some (.int .i64 a)∧w'.cell? ⟨g,1,none⟩=some (.int .i64 b)∧(∀ i,w'.frozen? ⟨g,i,none⟩=false)∧0≤w'.heap.size∧Below w.heap.size w w'
theorem Qe7 {a b:Int}{g:Nat}{w:World}:KT (SqC a b g w):=by
 exact Yo1
theorem Qe6 {a b:Int}{g:Nat}{w:World}:MT (SqC a b g w) []:=by
 intro d d' ν w' hd h;unfold SqC at *;simpa only[true_and] using h
theorem Qch (g cap B:Nat)(a b:Int)(w:World)(hB:B≤w.heap.size)(hBg:B≤g)(h:w.ownsRow B 3 1 (.slice (some ⟨g,0,none⟩) 2 cap) 2 [.int .i64 (a),.int .i64 (b)])(hne:(b==a)=false):Calls Tryz.prog 102 #[.slice (some ⟨g,0,none⟩) 2 cap] w fun e w'=>e=.returned (.slice (some ⟨g,0,none⟩) 2 cap)∧w'.ownsRow B 3 1 (.slice (some ⟨g,0,none⟩) 2 cap) 2 [.int .i64 (a),.int .i64 (b)]∧Below B w w':=by
 have hcap:2≤cap:=Yi1;have hc1:¬ cap=1:=Y1;have hc0:¬ cap-1=0:=Y1
 skip
 have c0:w.cell? ⟨g,0,none⟩=some _:=(h.cellAt 0 Y1).trans rfl;have c1:w.cell? ⟨g,1,none⟩=some _:=(h.cellAt 1 Y1).trans rfl;have hfz:=fun j=>h.frozenAt j
 have HO:=Lib.hid h;clear h;go_enter Tryz.func102,Tryz.ntmps102;go_wp2
 go_loopw [3] (fun s3 wr=>∃ k:Nat,s3=.int .i64 k∧1≤k∧k≤2∧Below w.heap.size w wr) (fun s3 _=>2-(intOf s3).toNat)
 case atStart =>
  exact⟨1,rfl,Y1,Y1,Yb⟩
 case round =>
  obtain⟨k,rfl,hk1,hk2,hBB⟩:=hrel;have hzB:=hBB.size;by_cases hk:k=1
  · subst hk
    have d0:=Q0 hBB c0;have d1:=Q0 hBB c1;have df:=Q7 hBB c0 hfz;clear c0 c1 hfz;go_wp2;refine Q2 (SqC a b g wr) [] [] (fun _ c=>.pointer (some ⟨c.1,0,none⟩)) rfl Yc ?_ (fun d d' ν w'=>Qe6 d d' ν w') (fun d ν w' w1=>Qe7 d ν w' w1) (fun i hi=>Yf0) ?_
    · exact Ymm
    apply Exists.intro;refine⟨fun ν=>?_,?_,?_⟩
    · (try simp only[List.append])
      iterate 10 refine Yef ?_
      exact rfl
    · intro i hi;cases hi
    · intro ν w9 d hd hC
      obtain⟨k0,k1,k2,k3,k4⟩:=hC
      skip
      clear hd;have z0:=Q1 k0;go_wp2;refine⟨⟨2,rfl,Y1,Y1,Yb⟩,by simp[intOf]⟩
  · obtain rfl:k=2:=by omega
    go_wp2;go_ret;exact⟨rfl,Qd HO.out Yb,(hBB.mono hB)⟩
theorem Qci (g cap B:Nat)(a b:Int)(w:World)(hB:B≤w.heap.size)(hBg:B≤g)(h:w.ownsRow B 3 1 (.slice (some ⟨g,0,none⟩) 2 cap) 2 [.int .i64 (a),.int .i64 (b)])(hne:(b==a)=true):Calls Tryz.prog 102 #[.slice (some ⟨g,0,none⟩) 2 cap] w fun e w'=>e=.returned (.slice (some ⟨g,0,none⟩) 1 cap)∧w'.ownsRow B 3 1 (.slice (some ⟨g,0,none⟩) 1 cap) 1 [.int .i64 (a)]∧Below B w w':=by
 have hcap:2≤cap:=Yi1;have hc1:¬ cap=1:=Y1;have hc0:¬ cap-1=0:=Y1
 skip
 have c0:w.cell? ⟨g,0,none⟩=some _:=(h.cellAt 0 Y1).trans rfl;have c1:w.cell? ⟨g,1,none⟩=some _:=(h.cellAt 1 Y1).trans rfl;have hfz:=fun j=>h.frozenAt j
 have HO:=Lib.hid h;clear h;go_enter Tryz.func102,Tryz.ntmps102;go_wp2
 go_loopw [3] (fun s3 wr=>∃ k:Nat,s3=.int .i64 k∧1≤k∧k≤2∧k=1∧Below w.heap.size w wr) (fun s3 _=>2-(intOf s3).toNat)
 case atStart =>
  exact⟨1,rfl,Y1,Y1,rfl,Yb⟩
 case round =>
  obtain⟨k,rfl,hk1,hk2,rfl,hBB⟩:=hrel;have hzB:=hBB.size;have d0:=Q0 hBB c0;have d1:=Q0 hBB c1;have df:=Q7 hBB c0 hfz;clear c0 c1 hfz;go_wp2;refine Q2 (SqC a b g wr) [] [] (fun _ c=>.pointer (some ⟨c.1,0,none⟩)) rfl Yc ?_ (fun d d' ν w'=>Qe6 d d' ν w') (fun d ν w' w1=>Qe7 d ν w' w1) (fun i hi=>Yf0) ?_
  · exact Ymm
  apply Exists.intro;refine⟨fun ν=>?_,?_,?_⟩
  · (try simp only[List.append])
    iterate 10 refine Yef ?_
    exact rfl
  · intro i hi;cases hi
  · intro ν w9 d hd hC
    obtain⟨k0,k1,k2,k3,k4⟩:=hC
    skip
    clear hd;have z0:=Q1 k0;go_wp2;have hclr:∀ c,Sem.run Tryz.prog (Builtin.clear_ #[125] 0 #[.slice (some ⟨g,1,none⟩) 1 c]) w9=.ok (.tuple #[]) (w9.setCell ⟨g,1,none⟩ (.int .i64 0)):=fun c=>Lib.run_clear_slice w9 125 3 0 (.int .i64 0) Tryz.underlying125 (fun w=>Tryz.zeroValue3 w) rfl rfl g 1 1 c Y1 (fun j hj=>by rw[show (1+j)=1 from Y1,k1];rfl) (fun j hj=>k2 _)
    go_loopw [3,5] (fun s3 s5 wq=>s3=.int .i64 1∧s5=.int .i64 1∧wq=w9) (fun _ _ _=>0)
    case atStart=>exact⟨rfl,rfl,rfl⟩
    case round =>
     obtain⟨rfl,rfl,rfl⟩:=hrel;go_wp2;go_ret;exact⟨rfl,Q1k (Q64 ((Qd HO.out Yb).stored 1 _).1 Y1) rfl rfl,Yb⟩
theorem Q83:(Tryz.prog.info? 3).map (fun i=>(i.zero,i.size,i.bytes))=some (some (.int .i64 0),1,8):=Yc
theorem Qdl (b c:Nat)(l:List In)(k:Nat)(w:World)(hI:Q14 w b l)(hg:Co.good l=true)(hk:Co.start l k=true):Calls Tryz.prog 80 #[.slice (some ⟨b,0,none⟩) l.length c,.int .i64 k] w fun e w'=>∃ v,e=.returned v∧w'.ownsRow w.heap.size 3 1 v (Co.aheadL l k).length (Co.intsV (Co.aheadL l k))∧Below w.heap.size w w':=by
 obtain⟨i0,hi0,hj0,hj1,hj2⟩:=info_parts Q83;refine Yvm ?_;intro hL hbw;have hkl:=Co.start_lt hk;have hG:=Lib.hid hg;clear hg;obtain⟨c0,c1,c2,c3,c4⟩:=hI k hkl;have ex:l.getD k In.zero=l[k]:=by rw[List.getD_eq_getElem?_getD,List.getElem?_eq_getElem hkl];rfl
 have en:Co.ends l k=(((Co.what l[k]).kind==12)||((Co.what l[k]).kind==9)):=by unfold Co.ends Co.kindAt;rw[ex]
 have EA:=Lib.hid (show Co.aheadL l k=if Co.ends l k then (if Co.targetB l k then [Co.target l k] else []) else if Co.targetB l k then Co.two (Co.nextK l k) (Co.target l k) else [Co.nextK l k] from rfl);clear ex;generalize l[k]=x at *;have n9:((Co.what x).kind != 9) = !((Co.what x).kind==9):=rfl;have n12:((Co.what x).kind != 12) = !((Co.what x).kind==12):=rfl;cases h12:((Co.what x).kind==12)<;>cases h9:((Co.what x).kind==9)<;>cases ht:Co.targetB l k
 all_goals rw[h12] at en n12;rw[h9] at en n9;have EA:=EA.out;rw[en] at EA;simp only[ht,Bool.true_or,Bool.false_or,Bool.or_true,Bool.or_false,if_true,if_false,Bool.false_eq_true] at EA;rw[EA];clear EA en;clear EA
 · go_enter Tryz.func80,Tryz.ntmps80
   go_wp2_with (first|(go_at_call 20;refine Y2p ?_;intro w1 hb1 hc1 hf1 hz1)|(go_at_call 31;refine Y8b ?_;intro w3 hb3 hc3 hf3 hz3)|(at_builtin;(refine wpList_append_own _ rfl (.tmp 26) (.tmp 30) _ rfl w.heap.size 3 i0 _ 1 8 Tryz.underlying125 hi0 hj0 hj1 hj2 rfl Y1 _ 0 [] rfl Qy _ 1 1 [.int .i64 (Co.nextK l k:Nat)] rfl rfl (fun j u hu=>by rw[Q7k];match j,hu with|0,hu=>(simp at hu;subst hu;simp[*,go_sem])|j+1,hu=>simp at hu) Yj Yk Y1 Y15 ?_;intro v1 w4 hown1 hg1 _);obtain⟨g1,cap1,rfl,hgB1,hgs1,hcap1,hmx1,_,_⟩:=Q1h hown1 Y1;have hb4:Below w.heap.size w w4:=Below.grown Yb hg1 Y15 (fun k e=>by have e2:(none:Option Nat)=some k:=e;cases e2);have hz4:=hb4.size)|(go_at_call 27;refine Y8a ?_;intro w2 hb2 hc2 hf2 hz2)|(refine Ycj ?_));go_ret;exact⟨_,rfl,Qd hown1 Yb,Yb⟩
 · skip
   rcases Nat.lt_trichotomy (Co.nextK l k) (Co.target l k) with hc|hc|hc
   · have ET:=Lib.hid (show Co.two (Co.nextK l k) (Co.target l k)=[Co.nextK l k,Co.target l k] by unfold Co.two;rw[if_neg Y1,if_neg Y1])
     have hsr:=Lib.hid (show srt ((Co.nextK l k:Nat):Int) ((Co.target l k:Nat):Int)=[((Co.nextK l k:Nat):Int),((Co.target l k:Nat):Int)] by unfold srt;rw[if_neg Y1]);have hne:=Lib.hid (show (((Co.target l k:Nat):Int)==((Co.nextK l k:Nat):Int))=false by rw[nat_beq];simp;omega);exact Yjq
   · have ET:=Lib.hid (show Co.two (Co.nextK l k) (Co.target l k)=[Co.nextK l k] by unfold Co.two;rw[if_pos hc])
     have hsr:=Lib.hid (show srt ((Co.nextK l k:Nat):Int) ((Co.target l k:Nat):Int)=[((Co.nextK l k:Nat):Int),((Co.target l k:Nat):Int)] by unfold srt;rw[if_neg Y1]);have hne:=Lib.hid (show (((Co.target l k:Nat):Int)==((Co.nextK l k:Nat):Int))=true by rw[nat_beq];simp;omega);clear hc;rw[ET.out];go_enter Tryz.func80,Tryz.ntmps80
     go_wp2_with (first|(go_at_call 20;refine Y2p ?_;intro w1 hb1 hc1 hf1 hz1)|(go_at_call 31;refine Y8b ?_;intro w3 hb3 hc3 hf3 hz3)|(at_builtin;(refine wpList_append_own _ rfl (.tmp 26) (.tmp 30) _ rfl w.heap.size 3 i0 _ 1 8 Tryz.underlying125 hi0 hj0 hj1 hj2 rfl Y1 _ 0 [] rfl Qy _ 1 1 [.int .i64 (Co.nextK l k:Nat)] rfl rfl (fun j u hu=>by rw[Q7k];match j,hu with|0,hu=>(simp at hu;subst hu;simp[*,go_sem])|j+1,hu=>simp at hu) Yj Yk Y1 Y15 ?_;intro v1 w4 hown1 hg1 _);obtain⟨g1,cap1,rfl,hgB1,hgs1,hcap1,hmx1,_,_⟩:=Q1h hown1 Y1;have hb4:Below w.heap.size w w4:=Below.grown Yb hg1 Y15 (fun k e=>by have e2:(none:Option Nat)=some k:=e;cases e2);have hz4:=hb4.size)|(go_at_call 27;refine Y8a ?_;intro w2 hb2 hc2 hf2 hz2)|(at_builtin;(refine wpList_append_own _ rfl (.tmp 39) (.tmp 41) _ rfl w.heap.size 3 i0 _ 1 8 Tryz.underlying125 hi0 hj0 hj1 hj2 rfl Y1 _ 1 _ rfl (Qd hown1 Yb) _ 1 1 [.int .i64 (Co.target l k:Nat)] rfl rfl (fun j u hu=>by rw[Q7k];match j,hu with|0,hu=>(simp at hu;subst hu;simp[*,go_sem])|j+1,hu=>simp at hu) Yj Yk Y1 Y15 ?_;intro v2 w5 hown2 hg2 _);obtain⟨g2,cap2,rfl,hgB2,hgs2,hcap2,hmx2,_,_⟩:=Q1h hown2 Y1;have hb5:Below w.heap.size w w5:=Below.grown Yb hg2 Y15 (fun k e=>(hown1.lt k e).1);have hz5:=hb5.size)|(go_at_call 101;refine Y9l ?_;intro w6 hown3 hb6 hz6)|(go_at_call 102;refine Y9n ?_;intro w7 hown4 hb7))
     go_ret;exact⟨_,rfl,hown4,(hb5.trans hb6).trans hb7⟩
   · have ET:=Lib.hid (show Co.two (Co.nextK l k) (Co.target l k)=[Co.target l k,Co.nextK l k] by unfold Co.two;rw[if_neg Y1,if_pos Y1])
     have hsr:=Lib.hid (show srt ((Co.nextK l k:Nat):Int) ((Co.target l k:Nat):Int)=[((Co.target l k:Nat):Int),((Co.nextK l k:Nat):Int)] by unfold srt;rw[if_pos Y1]);have hne:=Lib.hid (show (((Co.nextK l k:Nat):Int)==((Co.target l k:Nat):Int))=false by rw[nat_beq];simp;omega);exact Yjq
 · exact Ynh
 · exact Ykn
 · exact Ynh
 · exact Ykn
 · exact Ynh
 · exact Ykn
theorem Q125 (gw B:Nat)(v:Value)(xs:List Nat)(x:Nat)(w:World)(hW:Q7l 3 w gw B v xs)(hxs:xs.length≤1000000):Calls Tryz.prog 81 #[.pointer (some ⟨gw,0,none⟩),.int .i64 x] w fun e w'=>∃ v',e=.returned (.tuple #[])∧Q7l 3 w' gw B v' (xs++[x])∧Fr2 gw v.ownBlock w w'∧(∀ k,v'.ownBlock=some k→some k=v.ownBlock∨w.heap.size≤k):=by
 obtain⟨i0,hi0,hj0,hj1,hj2⟩:=info_parts Q83;have hc:=hW.cell;have hBs:B≤w.heap.size:=hW.base;have zg:=Q1 hc;go_enter Tryz.func81,Tryz.ntmps81
 go_wp2_with (at_builtin;(refine Q18 _ rfl (.tmp 8) (.tmp 10) _ rfl B 3 i0 _ 1 8 Tryz.underlying125 hi0 hj0 hj1 hj2 rfl Y1 _ xs.length (Co.intsV xs) rfl (Qd hW.own Yb) _ 1 1 [.int .i64 (x:Nat)] rfl rfl (fun j u hu=>by rw[Q7k];match j,hu with|0,hu=>(simp at hu;subst hu;simp[*,go_sem])|j+1,hu=>simp at hu) Yj Yk Y1 Y15 ?_;intro v2 w4 hown2 hg2 hr2);obtain⟨p2,c2,rfl⟩:=Q15 hown2;have d0:=hg2.cell (Q0 (Yb:Below w.heap.size w _) hW.cell) (fun e=>hW.ne e.symm);have df:=fun j=>(Q5t hg2 Y15 (fun e=>hW.ne e.symm) j).trans (Q7 (Yb:Below w.heap.size w _) hW.cell hW.fz j);have hz4:=hg2.size;(try simp only[World.size_alloc,World.size_drew] at hz4 hr2));have hne2:(Value.slice p2 (xs.length+1) c2).ownBlock≠some gw:=fun e=>(hr2 gw e).elim (fun h=>hW.ne h.symm) (fun h=>Y1)
 go_end0
 refine⟨_,rfl,⟨by go_simp,fun j=>by go_simp,Q1k (Qv hown2 ?_) Y3 (Q2p xs x).symm,?_,Y15⟩,?_,?_⟩
 · exact fun g hg=>heap_setCell_other w4 ⟨gw,0,none⟩ g _ (fun e=>hne2 (by rw[hg];exact congrArg some e))
 · exact hne2
 · exact ((Fr2.of_below Yb).trans (Fr2.grown hg2) (fun k hk=>.inl hk.symm)).set
 · exact fun k hk=>(hr2 k hk).imp id (fun h=>Y1)
theorem Qnz (gw B:Nat)(v:Value)(w:World)(hW:Q7l 3 w gw B v []):Calls Tryz.prog 78 #[.pointer (some ⟨gw,0,none⟩)] w fun e w'=>e=.returned (.tuple #[.int .i64 0,.bool false])∧w'=w:=by
 have hc:=hW.cell;have ho:=hW.own;simp only[List.length_nil] at ho;obtain⟨p,c,rfl⟩:=Q15 ho;clear hW ho;go_enter Tryz.func78,Tryz.ntmps78;go_wp2;go_ret2;exact⟨rfl,rfl⟩
theorem Qvn (gw B:Nat)(v:Value)(ys:List Nat)(x:Nat)(w:World)(hW:Q7l 3 w gw B v (ys++[x]))(hys:ys.length≤1000000):Calls Tryz.prog 78 #[.pointer (some ⟨gw,0,none⟩)] w fun e w'=>∃ v',e=.returned (.tuple #[.int .i64 x,.bool true])∧Q7l 3 w' gw B v' ys∧v'.ownBlock=v.ownBlock∧Fr2 gw none w w':=by
 obtain⟨hc,hfz,ho,hne,hB⟩:=hW;have hlen:(ys++[x]).length=ys.length+1:=by simp
 rw[hlen] at ho;obtain⟨g,cap,rfl,hgB,hgs,hcap,hmx,hcell,hfg⟩:=Q1h ho Y1;have hl:=hcell ys.length (.int .i64 (x:Nat)) Y24;have HO:=Lib.hid ho;clear ho hcell hfg;have hgg:g≠gw:=fun e=>hne Y1c
 have hm:ys.length≤1000000:=hys;have zg:=Q1 hc;go_enter Tryz.func78,Tryz.ntmps78;go_wp2
 go_region
 all_goals go_wp2
 go_ret2;refine⟨.slice (some ⟨g,0,none⟩) ys.length cap,rfl,⟨by go_simp,fun j=>by go_simp,?_,hne,Y15⟩,rfl,?_⟩
 · refine Q1k (Q64 (Qv HO.out (fun g2 hg2=>?_)) (Nat.le_succ _)) rfl Y25
   obtain rfl:g=g2:=by simpa[Value.ownBlock] using hg2
   exact (heap_setCell_other _ ⟨gw,0,none⟩ g _ hgg).trans rfl
 · exact Fr2.drew (Fr2.set (Fr2.of_below (Below.refl _ _)))
theorem Qhx (gw B gn cn:Nat)(v:Value)(xs ns:List Nat)(w:World)(hW:Q7l 3 w gw B v xs)(hn:∀ j u,(Co.intsV ns)[j]?=some u→w.cell? ⟨gn,j,none⟩=some u)(hgn:gn≠gw)(hgr:some gn≠v.ownBlock)(hxs:xs.length+ns.length≤1000000)(hgl:gn<w.heap.size):Calls Tryz.prog 79 #[.slice (some ⟨gn,0,none⟩) ns.length cn,.func (.func 81) #[.pointer (some ⟨gw,0,none⟩)] #[]] w fun e w'=>∃ v',e=.returned (.tuple #[])∧Q7l 3 w' gw B v' (xs++ns)∧Fr2 gw v.ownBlock w w'∧(∀ k,v'.ownBlock=some k→some k=v.ownBlock∨w.heap.size≤k):=by
 have HN:=Lib.hid hn;clear hn;go_enter Tryz.func79,Tryz.ntmps79;go_wp2
 go_loopw [8] (fun s8 wr=>∃ (k:Nat) (vr:Value),k≤ns.length∧s8=.int .i64 k∧Q7l 3 wr gw B vr (xs++ns.take k)∧Hid (Fr2 gw v.ownBlock w wr)∧Hid (∀ k,vr.ownBlock=some k→some k=v.ownBlock∨w.heap.size≤k)) (fun s8 _=>ns.length-(intOf s8).toNat)
 case atStart =>
  exact⟨0,v,Y1,rfl,by simpa using hW,Lib.hid (Fr2.refl _ _ _),Lib.hid fun k hk=>.inl hk.symm⟩
 case round =>
  clear hW;obtain⟨k,vr,hk,rfl,hW,hF,hr⟩:=hrel;by_cases hlt:k<ns.length
  · have hck:=hF.out.cell (HN.out k (.int .i64 ns[k]) (by unfold Co.intsV;simp[hlt])) hgn hgr
    generalize hx:ns[k]=x at *;have HX:=Lib.hid hx;clear hx;go_wp2_with (go_at_call 81;refine Y9q ?_;intro w1 v1 hW1 hF1 hr1)
    go_roundw
    case rel=>exact⟨k+1,v1,Y1,Yf1,by rw[List.take_succ_eq_append_getElem hlt,HX.out,← List.append_assoc];exact hW1,Lib.hid (hF.out.trans hF1 (fun q hq=>hr.out q hq)),Lib.hid (fun q hq=>(hr1 q hq).elim (fun h=>hr.out q h.symm) (fun h=>.inr (Nat.le_trans hF.out.size h)))⟩
    case measure=>simp[intOf];omega
  · obtain rfl:k=ns.length:=by omega
    rw[List.take_of_length_le (Nat.le_refl _)] at hW;go_wp2
    go_end0
    exact⟨vr,rfl,hW,hF.out,hr.out⟩
theorem Q8j (gw B:Nat)(v:Value)(xs:List Nat)(w:World)(hW:Q7l 3 w gw B v xs)(hxs:xs.length≤1000000):Calls Tryz.prog 78 #[.pointer (some ⟨gw,0,none⟩)] w fun e w'=>∃ v',e=.returned (.tuple #[.int .i64 (xs.getLast?.getD 0:Nat),.bool xs.getLast?.isSome])∧Q7l 3 w' gw B v' xs.dropLast∧v'.ownBlock=v.ownBlock∧Fr2 gw none w w':=by
 rcases List.eq_nil_or_concat xs with rfl|⟨ys,x,rfl⟩
 · refine (Qnz gw B v w hW).mono ?_
   rintro e w1 ⟨rfl,rfl⟩;exact⟨v,rfl,hW,rfl,Fr2.refl _ _ _⟩
 · rw[List.concat_eq_append] at *
   refine (Qvn gw B v ys x w hW (by simp at hxs;omega)).mono ?_;rintro e w1 ⟨v1,rfl,h1,h2,h3⟩;refine⟨v1,by simp,by rw[List.dropLast_concat];exact h1,h2,h3⟩
theorem Qhw (gw:Nat)(w:World):Calls Tryz.prog 79 #[.slice none 0 0,.func (.func 81) #[.pointer (some ⟨gw,0,none⟩)] #[]] w fun e w'=>e=.returned (.tuple #[])∧w'=w:=by
 go_enter Tryz.func79,Tryz.ntmps79;go_wp2
 go_loop [8] (fun s8=>s8=.int .i64 0) (fun _=>0)
 case atStart=>rfl
 case round =>
  obtain rfl:=hrel;go_wp2
  go_end0
  exact⟨rfl,rfl⟩
theorem Qhy (gw B C:Nat)(va v:Value)(xs ns:List Nat)(w:World)(hW:Q7l 3 w gw B v xs)(ha:w.ownsRow C 3 1 va ns.length (Co.intsV ns))(h1:va.ownBlock≠some gw)(h2:∀ g,va.ownBlock=some g→some g≠v.ownBlock)(hxs:xs.length+ns.length≤1000000):Calls Tryz.prog 79 #[va,.func (.func 81) #[.pointer (some ⟨gw,0,none⟩)] #[]] w fun e w'=>∃ v',e=.returned (.tuple #[])∧Q7l 3 w' gw B v' (xs++ns)∧Fr2 gw v.ownBlock w w'∧(∀ k,v'.ownBlock=some k→some k=v.ownBlock∨w.heap.size≤k):=by
 rcases ns with _|⟨n0,nr⟩
 · rcases ha.2 with ⟨e1,_⟩|⟨g,cap,cur,hv,hB',hh,hc,hm,hs,ht⟩
   · subst e1
     refine (Qhw gw w).mono ?_;rintro e w1 ⟨rfl,rfl⟩;exact⟨v,rfl,by simpa using hW,Fr2.refl _ _ _,fun k hk=>.inl hk.symm⟩
   · subst hv
     have hgs:g<w.heap.size:=(Array.getElem?_eq_some_iff.1 hh).1;exact Qhx gw B g cap v xs [] w hW (fun j u hu=>by simp[Co.intsV] at hu) (fun e=>h1 Y1c) (h2 g rfl) hxs hgs
 · obtain⟨g,cap,rfl,hgB,hgs,hcap,hmx,hcell,hfg⟩:=Q1h ha Y3
   exact Qhx gw B g cap v xs (n0::nr) w hW hcell (fun e=>h1 Y1c) (h2 g rfl) hxs hgs
theorem Qdm (b c:Nat)(l:List In)(k:Nat)(w:World)(hI:Q14 w b l)(hg:Co.good l=true)(hk:k<l.length):Calls Tryz.prog 103 #[.slice (some ⟨b,0,none⟩) l.length c,.int .i64 k] w fun e w'=>∃ v,e=.returned v∧w'.ownsRow w.heap.size 3 1 v (Co.aheadS l k).length (Co.intsV (Co.aheadS l k))∧Below w.heap.size w w':=by
 refine Yvm ?_;intro hL hbw;have hG:=Lib.hid hg;clear hg;have hg:=hG;clear hG;cases hs:Co.start l k
 · have HA:=Lib.hid (show Co.aheadS l k=[] by unfold Co.aheadS;rw[hs];rfl)
   have HS:=Lib.hid hs;clear hs;go_enter Tryz.func103,Tryz.ntmps103;go_wp2_with (go_at_call 77;refine Y9r ?_;intro w1 hb1 hz1);go_ret;exact⟨_,rfl,by rw[HA.out];exact Qy,Yb⟩
 · have HA:=Lib.hid (show Co.aheadS l k=Co.aheadL l k by unfold Co.aheadS;rw[hs];rfl)
   have HS:=Lib.hid hs;clear hs;go_enter Tryz.func103,Tryz.ntmps103;go_wp2_with ((with_reducible apply ic);first|(refine Y9r ?_;intro w1 hb1 hz1)|(go_at_call 80;(with_reducible refine (Qdl _ _ _ _ _ (hI.keep Yb) hg.out HS.out).mono ?_);refine Y7v ?_;intro w2 va hown hb2));go_ret;exact⟨_,rfl,by rw[HA.out];exact Q1a hown hz1,Yb⟩
theorem Qrl (b c:Nat)(l:List In)(k0:Nat)(w:World)(hI:Q14 w b l)(hg:Co.good l=true)(hk:Co.start l k0=true):Calls Tryz.prog 63 #[.slice (some ⟨b,0,none⟩) l.length c,.int .i64 k0] w fun e w'=>∃ g,e=.returned (.slice (some ⟨g,0,none⟩) l.length l.length)∧Qi w' g l.length (Co.reach l k0)∧w.heap.size≤g∧g<w'.heap.size∧Below w.heap.size w w':=by
 refine Yvm ?_;intro hL hbw;have hG:=Lib.hid hg;clear hg;have hg:=hG;clear hG;have hkl:=Co.start_lt hk;have HS:=Lib.hid hk;clear hk;have hmk:=Q66 l.length Y1;have hL2:l.length≤512:=(Co.good_facts hg.out).1.2;go_enter Tryz.func63,Tryz.ntmps63;go_wp2_with ((with_reducible apply ic);first|(go_at_call 76;(with_reducible refine (Qdk _ _ _ _ (hI.keep Yb) hL).mono ?_);rw[hg.out];refine Y8i ?_;intro w1 hb1 hz1)|(refine Y9v ?_;intro w2 hb2 hz2))
 refine Q1g (fun W=>Hid (Qi W w1.heap.size l.length (fun _=>false))∧Q7l 3 W w2.heap.size (w2.heap.size+1) (.slice none 0 0) []∧Below w.heap.size w W∧w2.heap.size+1≤W.heap.size∧w1.heap.size<w2.heap.size) ⟨Lib.hid ((Qi.cells.2 (Qg.made (w:=w1) (n:=l.length) (e:=4) (z:=.bool false))).keep Y3 Yb),⟨by go_simp,fun j=>by go_simp,Qy,by simp[Value.ownBlock],by simp⟩,Yb,by simp,Y1⟩ ?_;rintro W ⟨hO,hW,hbW,hzW,hgg⟩;clear hmk hb1 hb2 hz2;generalize w1.heap.size=gO at *;generalize w2.heap.size=gw at *
 go_loopg [7,8] (3*l.length+1) (fun n s7 s8 wr=>(∃ (k:Nat) (todo:List Nat) (out:Nat→Bool) (v:Value),s7=.int .i64 k∧s8=.bool true∧Hid (Co.start l k=true)∧Hid (∀ m∈todo,Co.start l m=true)∧Hid (Co.reachF l n k todo out=Co.reach l k0)∧3*Co.unv l.length out+todo.length+1≤n∧n≤3*l.length+1∧Q7l 3 wr gw (gw+1) v todo∧Hid (Qi wr gO l.length out)∧gO<gw∧gw+1≤wr.heap.size∧w.heap.size≤gO∧Below w.heap.size w wr)∨(∃ out:Nat→Bool,s8=.bool false∧Hid (out=Co.reach l k0)∧Hid (Qi wr gO l.length out)∧gO<gw∧gw+1≤wr.heap.size∧w.heap.size≤gO∧Below w.heap.size w wr))
 case atStart =>
  exact .inl ⟨k0,[],fun _=>false,_,rfl,rfl,HS,Lib.hid (fun m hm=>by cases hm),Lib.hid rfl,by have:=Co.unv_le l.length (fun _=>false);simp;omega,Nat.le_refl _,hW,hO,hgg,hzW,hz1,hbW⟩
 case round =>
  clear hO hW hbW hzW hgg HS hkl;rcases hrel with ⟨k,todo,out,v,rfl,rfl,hs,htd,hR,hf,hn,hW,hO,hgg,hzW,hgO,hbW⟩|⟨out,rfl,he,hO,hgg,hzW,hgO,hbW⟩
  · obtain⟨n,rfl⟩:∃ n',gk=n'+1:=⟨gk-1,Y1⟩
    have hkl:=Co.start_lt hs.out;have hzB:=hbW.size;have hck:=hO.out.1 k hkl;have hnv:∀ g,v.ownBlock=some g→gw+1≤g∧g<wr.heap.size:=fun g hg=>hW.own.lt g hg
    have HNV:=Lib.hid hnv;clear hnv;have hro:some gO≠v.ownBlock:=fun e=>by have:=HNV.out gO e.symm;omega
    have hR2:=Lib.hid ((Co.reachF_step l n k todo out).symm.trans hR.out);clear hR;have hul:=Co.unv_le l.length out;cases hq:out k
    · rw[hq] at hck
      have hR3:=hR2.out;rw[hq] at hR3;simp only[Bool.false_eq_true,if_false] at hR3;have hR:=Lib.hid hR3;clear hR2 hR3;have hal:=Co.aheadL_le l k;have huv:=Co.unv_set hq l.length;rw[if_pos hkl] at huv;have hfO:=hO.out.2;have hWs:=hW.set (g:=gO) (o:=k) (u:=.bool true) Y1 hro;have hOs:=Lib.hid (hO.out.set (f':=fun j=>j==k||out j) hkl true (fun j hj=>by by_cases e:j=k<;>simp[e]));have hbs:Below w.heap.size w (wr.setCell ⟨gO,k,none⟩ (.bool true)):=Yb;have htd2:=Lib.hid (show ∀ m∈todo++Co.aheadL l k,Co.start l m=true from fun m hm=>(List.mem_append.1 hm).elim (htd.out m) (Co.ahead_start hg.out hs.out));generalize hns:Co.aheadL l k=ns at *;have HNS:=Lib.hid hns;clear hns
      go_wp2_with (first|(go_at_call 80;refine Y9x ?_;intro w6 va hown hb6)|(go_at_call 79;(with_reducible refine (Qhy _ _ _ _ _ _ _ _ (hWs.keep hb6) hown (fun e=>by have:=(hown.lt _ e).1;omega) (fun g hg e=>by have:=(hown.lt _ hg).1;have:=(HNV.out g e.symm).2;omega) Y1).mono ?_);rintro e w7 ⟨v7,rfl,hW7,hF7,hr7⟩;have htl:(todo++ns).length=todo.length+ns.length:=List.length_append;generalize todo++ns=td at *)|(go_at_call 78;refine Y9y ?_;intro w5 v5 hW5 hv5 hF5));have hF7':=hF7.trans hF5 (fun q hq=>by cases hq);have hO5:=Lib.hid (hF7'.bools (hOs.out.keep Y15 hb6) (by have:=hb6.size;simp at this;omega) Y1 hro);have hb5:Below w.heap.size w w5:=((hbs.trans (hb6.mono Y15))).trans (hF7'.below (by have:=hb6.size;simp at this;omega) Y1 (fun q hq=>by have:=HNV.out q hq;omega));have hs6:=hb6.size
      simp only[World.size_setCell] at hs6
      go_roundg n
      case measure=>omega
      case rel =>
       have hR4:=hR.out;clear hR;rcases hgl:td.getLast? with _|m
       · exact Ysk
       · rw[hgl] at hR4
         have hmem:=List.mem_of_getLast? hgl;have hdl:td.dropLast.length+1=td.length:=Yi3;exact .inl ⟨m,_,_,v5,rfl,rfl,Lib.hid (htd2.out m hmem),Lib.hid (fun q hq=>htd2.out q (List.dropLast_subset _ hq)),Lib.hid hR4,Y1,Y1,hW5,hO5,hgg,Yi2,hgO,hb5⟩
    · rw[hq] at hck
      have hR3:=hR2.out;rw[hq] at hR3;simp only[if_true] at hR3;have hR:=Lib.hid hR3;clear hR2 hR3;go_wp2_with (go_at_call 78;refine Y9z ?_;intro w5 v5 hW5 hv5 hF5);have hF7':=hF5;have hO5:=Lib.hid (hF5.bools hO.out Y1 Y1 (fun e=>Yfk));have hb5:Below w.heap.size w w5:=hbW.trans (hF5.below Y1 Y1 (fun q hq=>by cases hq))
      go_roundg n
      case measure=>omega
      case rel =>
       have hR4:=hR.out;clear hR;rcases hgl:todo.getLast? with _|m
       · exact Ysk
       · rw[hgl] at hR4
         have hmem:=List.mem_of_getLast? hgl;have hdl:todo.dropLast.length+1=todo.length:=Yi3;exact .inl ⟨m,_,_,v5,rfl,rfl,Lib.hid (htd.out m hmem),Lib.hid (fun q hq=>htd.out q (List.dropLast_subset _ hq)),Lib.hid hR4,Y1,Y1,hW5,hO5,hgg,Yi2,hgO,hb5⟩
  · go_wp2
    go_ret;exact⟨gO,rfl,by rw[← he.out];exact hO.out,hgO,Y1,hbW⟩
end Hk
