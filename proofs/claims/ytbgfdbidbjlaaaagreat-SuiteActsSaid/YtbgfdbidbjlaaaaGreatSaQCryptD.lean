/-
  The document's own cipher of chance: a block, back. No condition beyond what each theorem names.
-/
import Derived.Test.YtbgfdbidbjlaaaaGreatSaQCryptHPk
import Derived.Deep.LoopGhost
import Derived.Deep.Cut
namespace Go.Proofs.YtbgfdbidbjlaaaaGreat.Fd
open _root_.Go.Proofs.Tryz
open Go Go.RowKit K
set_option maxRecDepth 100000
set_option maxHeartbeats 40000000
theorem qCryptD_ok {w:World}{F:Nat→Prop}{c tp:Nat}{bv lv pv kv:Value}{b:List UInt8}{a k:Nat}{prs:List PR}{ag:Nat}(h:QIdeal w F c tp bv lv pv kv b a k prs ag) (what key:ByteArray) (un im:Nat) (hk:PKey.fits (key,un,im)){x:List UInt8}(hx:x.length=16)
  {R:Option (List UInt8)×Nat×List PR}(hR:R=cryptM b a prs (key,un,im) x true):
  Calls prog 27 #[.pointer (some ⟨c,0,none⟩),.string what,.string key,.int .i64 un,.int .i64 im,blkV x,.bool true] w fun e w'=>e=ansV R.1∧
   (∃ lv' pv' k' ag',QIdeal w' (fun g=>F g∨w.heap.size≤g) c tp bv lv' pv' kv b R.2.1 k' R.2.2 ag')∧Chg (fun g=>g=c∨g=tp) w w':=by
 obtain⟨n,hn⟩:∃ n,n=w.heap.size:=⟨_,rfl⟩;have HN:=LH hn;have hI0:=QIn.start (x:=x) h;simp only[] at hI0;replace h:=LH h;obtain⟨V,hV⟩:∃ V,V=(u8s x).toArray:=⟨_,rfl⟩;rw[← hV,← hn] at hI0;obtain⟨w0,hw0⟩:∃ y,y=(w.alloc (.cells V 73)).alloc (.cells #[.int .u8 0,.int .u8 0,.int .u8 0,.int .u8 0,.int .u8 0,.int .u8 0,.int .u8 0,.int .u8 0,.int .u8 0,.int .u8 0,.int .u8 0,.int .u8 0,.int .u8 0,.int .u8 0,.int .u8 0,.int .u8 0] 73):=⟨_,rfl⟩;rw[← hw0] at hI0;show Calls prog 27 #[.pointer (some ⟨c,0,none⟩),.string what,.string key,.int .i64 un,.int .i64 im,.agg (u8s x).toArray,.bool true] w _;rw[← hV];have hg:=blk_guard;replace hV:=LH hV;replace hI0:=LH hI0;replace hR:=LH hR;replace hk:=LH hk;have hw0':=LH hw0;clear hn hw0;go_enter func27,ntmps27;go_wp2;rw[← hw0'.out,← HN.out];clear hw0'
 go_loopg [16,17] prs.length (fun g j _ wr=>∃ i:Nat,i+g=prs.length∧j=.int .i64 i∧Hid (QIn w F n (n+2) x c tp bv lv pv kv b a k prs ag wr)∧Hid (∀ r ∈ prs.take i,hit (key,un,im) x true r=none))
 case atStart=>exact⟨0,by omega,rfl,hI0.out,fun r hr=>by simp at hr⟩
 case round=>
  clear hI0;obtain⟨i,hig,rfl,hI,hH⟩:=hrel;by_cases hi:i<prs.length
  ·obtain⟨g1,rfl⟩:∃ j,gk=j+1:=⟨gk - 1,by omega⟩;obtain⟨q,hq⟩:∃ q,prs[i]?=some q:=⟨_,List.getElem?_eq_getElem hi⟩;have hqm:q ∈ prs:=List.mem_of_getElem? hq;have hqf:=(hI.out.st.ok.fits q hqm).2;obtain⟨gp,poff,pcap,rfl,hp1,hp2,hld⟩:=hI.out.pair hq;unfold maxLen at hp2;obtain⟨wB,hst,hpb,hCB,hsB⟩:=pair_box wr q hqf;have hIB:=hI.out.after hCB;have hB1:=hpb.c0;have hB2:=hpb.c1;have hB3:=hpb.c2;have hBf:=hpb.from hqf;have hBt:=hpb.to hqf;obtain⟨qs,hqs⟩:∃ s,s=q.1.1:=⟨_,rfl⟩;obtain⟨qu,hqu⟩:∃ s,s=q.1.2.1:=⟨_,rfl⟩;obtain⟨qi,hqi⟩:∃ s,s=q.1.2.2:=⟨_,rfl⟩;obtain⟨QF,hQF⟩:∃ s,s=q.2.1:=⟨_,rfl⟩;obtain⟨QT,hQT⟩:∃ s,s=q.2.2:=⟨_,rfl⟩;have hQFl:QF.length=16:=hQF ▸ hqf.1;have hQTl:QT.length=16:=hQT ▸ hqf.2;rw[← hqs] at hB1;rw[← hqu] at hB2;rw[← hqi] at hB3;rw[← hQF] at hBf;rw[← hQT] at hBt;obtain⟨C,hC⟩:∃ C,C=(prCells q).toArray:=⟨_,rfl⟩;rw[← hC] at hld hst;have cP:wr.cell? ⟨c,1,none⟩=some (.slice (some ⟨gp,poff,none⟩) prs.length pcap):=by rw[cell_of hI.out.st.box];rfl
   obtain⟨PL,hPL⟩:∃ L,L=prs.length:=⟨_,rfl⟩;rw[← hPL] at cP hp1;have hiP:i<PL:=by omega
   have hPLb:PL≤1000000:=by have:=hI.out.st.few;have:=hI.out.st.tape.within;have:=hI.out.st.tape.few;omega
   replace hPL:=LH hPL;replace hqs:=LH hqs;replace hqu:=LH hqu;replace hqi:=LH hqi;replace hQF:=LH hQF;replace hQT:=LH hQT;replace hC:=LH hC;replace hld:=LH hld;replace hst:=LH hst;replace hBf:=LH hBf;replace hBt:=LH hBt;replace hIB:=LH hIB;replace hpb:=LH hpb;replace hq:=LH hq;replace hqm:=LH hqm;replace hqf:=LH hqf;replace hsB:=LH hsB;replace hCB:=LH hCB;by_cases e1:qs=key
   ·subst e1;by_cases e2:qu=un
    ·subst e2;by_cases e3:qi=im
     ·subst e3;by_cases e4:QT=x
      ·
       have hbe:=fun w3=>blk_eql w3 hQTl hx
       rw[e4,decide_eq_true rfl] at hbe
       have hhit:lookM prs (qs,qu,qi) x true=some QF:=findSome_at hH.out hq.out (by
        rw[hit,if_pos (by rw[hqs.out,hqu.out,hqi.out]),← hQF.out,← hQT.out,e4];simp)
       have hRe:=hR.out;rw[cryptM_had hhit] at hRe;have hx1:=run_loadAt_arr (P:=prog) hIB.out.inp underlying73 (size61 hx);have hs1:=block_store' hIB.out.res List.length_replicate QF hQFl;have hF9:=hIB.out.fin h.out QF;obtain⟨w9,hw9⟩:∃ y,y=wB.setRow (n+1) (u8s QF).toArray:=⟨_,rfl⟩;rw[← hw9] at hs1 hF9;obtain⟨hfin,hres,hch⟩:=hF9;have hx2:(Instr.loadAt 73 (.pointer (some ⟨wr.heap.size,19,none⟩))).run prog wB=.ok (.agg (u8s x).toArray) wB:=by rw[← e4];exact hBt.out
       have hx3:=hBf.out;obtain⟨XV,hXV⟩:∃ v,v=(u8s x).toArray:=⟨_,rfl⟩;obtain⟨OV,hOV⟩:∃ v,v=(u8s QF).toArray:=⟨_,rfl⟩;have hbe2:∀ w3,(binOp .eql 73 (.agg XV) (.agg XV)).run prog w3=.ok (.bool true) w3:=by rw[hXV];exact hbe
       rw[← hXV] at hx1 hx2;rw[← hOV] at hx3 hs1;have hfl:=LH (show (prog.info? 73).map (·.size)=some (u8s QF).toArray.size by rw[size61 hQFl];simp[u8s_length]);replace hx1:=LH hx1;replace hx2:=LH hx2;replace hx3:=LH hx3;replace hs1:=LH hs1;replace hres:=LH hres;replace hfin:=LH hfin;replace hch:=LH hch;replace hRe:=LH hRe;replace hhit:=LH hhit;replace hw9:=LH hw9;replace hXV:=LH hXV;replace hOV:=LH hOV;replace e4:=LH e4;have e1:=str_eq qs;have e2:=int_eq qu;have e3:=int_eq qi;clear hbe hI hH
       go_wp2_with (first|(refine wpList_load rfl 112 _ rfl _ _ rfl hld.out ?_)|(refine wpList_store rfl 112 _ _ rfl _ _ rfl rfl hst.out ?_)|(refine wpList_loadG ?_ 73 _ rfl _ _ rfl hx1.out ?_;· rfl)|(refine wpList_loadG ?_ 73 _ rfl _ _ rfl hx2.out ?_;· rfl)|(refine wpList_loadG ?_ 73 _ rfl _ _ rfl hx3.out ?_;· rfl)|(refine wpList_store rfl 73 _ _ rfl _ _ rfl rfl hs1.out ?_))
       refine bodyPost_ret (results_cell_slot results27 _ _ (n+1) 73 _ (0,0) _ rfl hres.out underlying73 rfl hfl.out) rfl ⟨?_,⟨lv,.slice (some ⟨gp,poff,none⟩) prs.length pcap,k,ag,?_⟩,hch.out⟩
       ·rw[hRe.out];rfl
       ·rw[hRe.out];exact hfin.out
      ·have hN:∀ r ∈ prs.take (i+1),hit (qs,qu,qi) x true r=none:=by
        rw[take_snoc hq.out];intro r hr;rcases List.mem_append.1 hr with hr|hr
        ·exact hH.out r hr
        ·simp only[List.mem_singleton] at hr;subst hr;rw[hit,if_pos (by rw[hqs.out,hqu.out,hqi.out]),← hQF.out,← hQT.out];simp[e4]
       replace hN:=LH hN;have hbe:=fun w3=>blk_eql w3 hQTl hx
       rw[decide_eq_false e4] at hbe;have hx1:=run_loadAt_arr (P:=prog) hIB.out.inp underlying73 (size61 hx);obtain⟨XV,hXV⟩:∃ v,v=(u8s x).toArray:=⟨_,rfl⟩;obtain⟨OV,hOV⟩:∃ v,v=(u8s QT).toArray:=⟨_,rfl⟩;have hx2:=hBt.out;rw[← hXV] at hx1 hbe;rw[← hOV] at hx2 hbe;replace hx1:=LH hx1;replace hx2:=LH hx2;replace hXV:=LH hXV;replace hOV:=LH hOV;replace e4:=LH e4;have e1:=str_eq qs;have e2:=int_eq qu;have e3:=int_eq qi;clear hI hH;generalize Exit.inBlock 0 _=E0
       go_wp2_with (first|(refine wpList_load rfl 112 _ rfl _ _ rfl hld.out ?_)|(refine wpList_store rfl 112 _ _ rfl _ _ rfl rfl hst.out ?_)|(refine wpList_loadG ?_ 73 _ rfl _ _ rfl hx1.out ?_;· rfl)|(refine wpList_loadG ?_ 73 _ rfl _ _ rfl hx2.out ?_;· rfl))
       go_roundg g1
       case measure=>omega
       case rel=>exact⟨i+1,by omega,by go_num,hIB.out,hN.out⟩
     ·have hN:∀ r ∈ prs.take (i+1),hit (qs,qu,im) x true r=none:=by
       rw[take_snoc hq.out];intro r hr;rcases List.mem_append.1 hr with hr|hr
       ·exact hH.out r hr
       ·simp only[List.mem_singleton] at hr;subst hr;rw[hit,if_neg (fun e=>e3 (by rw[hqi.out,e]))]
      replace hN:=LH hN;have e1:=str_eq qs;have e2:=int_eq qu;replace e3:=int_ne e3;clear hI hH;generalize Exit.inBlock 0 _=E0
      go_wp2_with (first|(refine wpList_load rfl 112 _ rfl _ _ rfl hld.out ?_)|(refine wpList_store rfl 112 _ _ rfl _ _ rfl rfl hst.out ?_))
      go_roundg g1
      case measure=>omega
      case rel=>exact⟨i+1,by omega,by go_num,hIB.out,hN.out⟩
    ·have hN:∀ r ∈ prs.take (i+1),hit (qs,un,im) x true r=none:=by
      rw[take_snoc hq.out];intro r hr;rcases List.mem_append.1 hr with hr|hr
      ·exact hH.out r hr
      ·simp only[List.mem_singleton] at hr;subst hr;rw[hit,if_neg (fun e=>e2 (by rw[hqu.out,e]))]
     replace hN:=LH hN;have e1:=str_eq qs;replace e2:=int_ne e2;clear hI hH;generalize Exit.inBlock 0 _=E0
     go_wp2_with (first|(refine wpList_load rfl 112 _ rfl _ _ rfl hld.out ?_)|(refine wpList_store rfl 112 _ _ rfl _ _ rfl rfl hst.out ?_))
     go_roundg g1
     case measure=>omega
     case rel=>exact⟨i+1,by omega,by go_num,hIB.out,hN.out⟩
   ·have hN:∀ r ∈ prs.take (i+1),hit (key,un,im) x true r=none:=by
     rw[take_snoc hq.out];intro r hr;rcases List.mem_append.1 hr with hr|hr
     ·exact hH.out r hr
     ·simp only[List.mem_singleton] at hr;subst hr;rw[hit,if_neg (fun e=>e1 (by rw[hqs.out,e]))]
    replace hN:=LH hN;replace e1:=str_ne e1;clear hI hH;generalize Exit.inBlock 0 _=E0
    go_wp2_with (first|(refine wpList_load rfl 112 _ rfl _ _ rfl hld.out ?_)|(refine wpList_store rfl 112 _ _ rfl _ _ rfl rfl hst.out ?_))
    go_roundg g1
    case measure=>omega
    case rel=>exact⟨i+1,by omega,by go_num,hIB.out,hN.out⟩
  ·have hlook:lookM prs (key,un,im) x true=none:=findSome_take (fun r hr=>hH.out r (by rw[List.take_of_length_le (by omega)];exact hr));obtain⟨us,hus⟩:∃ f,f=usedM prs (key,un,im) true:=⟨_,rfl⟩;obtain⟨RP,hRP⟩:∃ P,P=pickB b us b.length a:=⟨_,rfl⟩;obtain⟨pa,pc,rfl,hp1,hp2⟩:=hI.out.st.row.shape;unfold maxLen at hp2;have cP:wr.cell? ⟨c,1,none⟩=some (.slice pa prs.length pc):=by rw[cell_of hI.out.st.box];rfl
   have hPLb:prs.length≤1000000:=by have:=hI.out.st.few;have:=hI.out.st.tape.within;have:=hI.out.st.tape.few;omega
   obtain⟨PL,hPL⟩:∃ L,L=prs.length:=⟨_,rfl⟩;rw[← hPL] at cP hp1 hPLb;have hiN:PL≤i:=by omega
   have hiL:i≤PL:=by omega
   have hI2:=LH hI.out;replace hlook:=LH hlook;replace hRP:=LH hRP;replace hus:=LH hus;replace hPL:=LH hPL;clear hI hi hig hH;have hdec:decide (i<PL)=false:=decide_eq_false (by omega);replace hdec:=LH hdec;go_wp2;rw[hdec.out];clear cP hdec
   go_loopg [18,19,20,21,22,23,24,25] b.length (fun gk _ _ _ _ _ _ _ _ wr=>∃ (lv1:Value) (a1 k1 ag1 mm:Nat),b.length≤a1+16*gk∧Hid (pickB b us gk a1=RP)∧Hid (QIn w F n mm x c tp bv lv1 (.slice pa prs.length pc) kv b a1 k1 prs ag1 wr))
   case atStart=>exact⟨lv,a,k,ag,n+2,by omega,hRP.out.symm,hI2.out⟩
   case round=>
    clear hI2;obtain⟨lv1,a1,k1,ag1,mm,hfu,hP,hI⟩:=hrel;have cT:wr.cell? ⟨c,0,none⟩=some (.pointer (some ⟨tp,0,none⟩)):=by rw[cell_of hI.out.st.box];rfl
    have hwi:=hI.out.st.tape.within;have hfew0:=hI.out.st.few;have hag0:=hI.out.st.again;have hok0:=hI.out.st.ok;by_cases h16:b.length<a1+16
    ·have htake:=LH (qTake_short hI.out.st.tape what 16 h16 (by omega));have hPn:=hP.out;rw[pickB_short h16] at hPn;have hRe:=hR.out;rw[cryptM_miss hlook.out (show pickB b (usedM prs (key,un,im) true) b.length a=(none,a1) by rw[← hus.out,← hRP.out,← hPn])] at hRe;replace hok0:=LH hok0;replace hPn:=LH hPn;replace hRe:=LH hRe
     go_wp2_with (fail)
     refine htake.out.mono ?_;rintro e w1 ⟨rfl,hC1⟩;have hI1:=hI.out.after hC1;have hs1:=block_store' hI1.res List.length_replicate (List.replicate 16 0) List.length_replicate;have hF9:=hI1.fin h.out (List.replicate 16 0);obtain⟨w9,hw9⟩:∃ y,y=w1.setRow (n+1) (u8s (List.replicate 16 0)).toArray:=⟨_,rfl⟩;rw[← hw9] at hs1 hF9;obtain⟨hfin,hres,hch⟩:=hF9;replace hs1:=LH hs1;replace hres:=LH hres;replace hfin:=LH hfin;replace hch:=LH hch;replace hw9:=LH hw9;clear hI hI1 hC1 htake hP
     go_wp2_with (first|(refine wpList_store rfl 73 _ _ rfl _ _ rfl rfl hs1.out ?_))
     refine bodyPost_ret (results_cell_slot results27 _ _ (n+1) 73 _ (0,0) _ rfl hres.out underlying73 rfl (by kernel_rfl)) rfl ⟨?_,⟨lv1,.slice pa prs.length pc,k1,ag1,?_⟩,hch.out⟩
     ·rw[hRe.out];rfl
     ·rw[hRe.out];exact hfin.out
    ·obtain⟨gk',rfl⟩:∃ j,gk=j+1:=⟨gk - 1,by omega⟩;obtain⟨y,hy⟩:∃ y,y=blk16 b a1:=⟨_,rfl⟩;have hyl:y.length=16:=by rw[hy];exact blk16_length (by omega)
     have htake:=qTake_ok hI.out.st.tape what 16 (by omega) (by omega);rw[show (b.drop a1).take 16=y by rw[hy];rfl] at htake;replace htake:=LH htake;replace hy:=LH hy;replace hok0:=LH hok0
     go_wp2_with (fail)
     refine htake.out.mono ?_;rintro e w1 ⟨v,lv',rfl,hv,hT1,hC1⟩;have hI1:=hI.out.took (m':=w1.heap.size) (by omega) hT1 hC1 (Nat.le_refl _);obtain⟨vb,vc,rfl,hvc1,hvc2⟩:=own_shape hv (by omega);unfold maxLen at hvc2;have hvl:=hv.lt vb rfl
     have hvx:∀ j,j<16→w1.cell? ⟨vb,j,none⟩=some (.int .u8 (y.getD j 0).toNat):=by
      intro j hj;have h1:=(hv.cells rfl) j _ (u8s_get y j (by omega));rw[Addr.add_lit,Nat.zero_add] at h1;rw[h1];simp[List.getD,show j<y.length by omega]
     obtain⟨ob,hob⟩:∃ q,q=w1.heap.size:=⟨_,rfl⟩;have hn2:n+2≤ob:=by have:=hI1.size;omega
     have hvb2:vb<ob:=hob ▸ hvl.2;rw[← hob] at hI1;obtain⟨w2,hw2⟩:∃ z,z=w1.alloc (.cells #[.int .u8 0,.int .u8 0,.int .u8 0,.int .u8 0,.int .u8 0,.int .u8 0,.int .u8 0,.int .u8 0,.int .u8 0,.int .u8 0,.int .u8 0,.int .u8 0,.int .u8 0,.int .u8 0,.int .u8 0,.int .u8 0] 73):=⟨_,rfl⟩;have hO2:Arr w2 ob 73 (fillQ (fun j=>y.getD j 0) 0):=by rw[hw2,hob];exact heap_alloc_new w1 _
     have hC2:Chg No w1 w2:=hw2 ▸ (Chg.refl _ _).alloc _;have hI2:=hI1.after hC2;have hvx2:∀ j,j<16→w2.cell? ⟨vb,j,none⟩=some (.int .u8 (y.getD j 0).toNat):=fun j hj=>(World.cell?_of_block (w:=w1) (a:=⟨vb,j,none⟩) (hC2.block vb hvl.2 id)).trans (hvx j hj)
     have hw2':=LH hw2;replace hob:=LH hob;replace hI2:=LH hI2;replace hO2:=LH hO2;replace hvx2:=LH hvx2;clear hw2 hI1 hI hT1 hC1 hC2 hv hvx hvl htake cT;go_wp2;rw[← hw2'.out,← hob.out];clear hw2' hob
     go_loopg [21] 16 (fun g j wr=>∃ i:Nat,i+g=16∧j=.int .i64 i∧Hid (QIn w F n ob x c tp bv lv' (.slice pa prs.length pc) kv b (a1+16) (k1+1) prs ag1 wr)∧Hid (Arr wr ob 73 (fillQ (fun j=>y.getD j 0) i))∧Hid (∀ j,j<16→wr.cell? ⟨vb,j,none⟩=some (.int .u8 (y.getD j 0).toNat)))
     case atStart=>exact⟨0,by omega,rfl,hI2.out,hO2.out,hvx2.out⟩
     case round=>
      clear hI2 hO2 hvx2;obtain⟨i,hig,rfl,hI,hO,hvx⟩:=hrel;by_cases hi:i<16
      ·obtain⟨g3,rfl⟩:∃ j,gk=j+1:=⟨gk - 1,by omega⟩;have cV:=hvx.out i hi;obtain⟨d,hd⟩:∃ d,d=(y.getD i 0).toNat:=⟨_,rfl⟩;rw[← hd] at cV;have f0:=hO.out.frozen i;have c0:=hO.out.cell i (by rw[fillQ_length];exact hi);have hset:=hO.out.set i (y.getD i 0);rw[← hd,show (fillQ (fun j=>y.getD j 0) i).set i (y.getD i 0)=fillQ (fun j=>y.getD j 0) (i+1) from rfl] at hset;have hIs:=hI.out.far (z:=wr.setCell ⟨ob,i,none⟩ (.int .u8 d)) (Chg.setCell (C:=fun g=>ob≤g) (p:=⟨ob,i,none⟩) (Chg.refl _ _) (fun _=>Nat.le_refl _) _) hn2;have hvs:∀ j,j<16→(wr.setCell ⟨ob,i,none⟩ (.int .u8 d)).cell? ⟨vb,j,none⟩=some (.int .u8 (y.getD j 0).toNat):=fun j hj=>(World.cell?_of_block (w:=wr) (a:=⟨vb,j,none⟩) (setCell_heap_ne _ _ _ (by show vb≠ob;omega))).trans (hvx.out j hj)
       replace hset:=LH hset;replace hIs:=LH hIs;replace hvs:=LH hvs;replace hd:=LH hd;clear hI hO hvx;go_wp2;go_roundg g3
       case measure=>omega
       case rel=>exact⟨i+1,by omega,by go_num,hIs.out,hset.out,hvs.out⟩
      ·obtain rfl:i=16:=by omega
       rw[fillQ_self hyl] at hO;clear hvx hi hig;go_wp2
       go_loopg [22,23,24] prs.length (fun g u j _ wr=>∃ i:Nat,i+g=prs.length∧j=.int .i64 i∧u=.bool ((prs.take i).any (uses (key,un,im) true y))∧Hid (QIn w F n ob x c tp bv lv' (.slice pa prs.length pc) kv b (a1+16) (k1+1) prs ag1 wr)∧Hid (Arr wr ob 73 y))
       case atStart=>exact⟨0,by omega,rfl,by simp,hI.out,hO.out⟩
       case round=>
        clear hI hO;obtain⟨i,hig,rfl,rfl,hI,hO⟩:=hrel;by_cases hi:i<prs.length
        ·obtain⟨g4,rfl⟩:∃ j,gk=j+1:=⟨gk - 1,by omega⟩;clear hPL hiN hiL hp1 hPLb;generalize Exit.inBlock 3 _=E0;obtain⟨q,hq⟩:∃ q,prs[i]?=some q:=⟨_,List.getElem?_eq_getElem hi⟩;have hqm:q ∈ prs:=List.mem_of_getElem? hq;have hqf:=(hI.out.st.ok.fits q hqm).2;obtain⟨gp,poff,pcap,hpe,hp1,hp2,hld⟩:=hI.out.pair hq;cases hpe
         unfold maxLen at hp2;obtain⟨wB,hst,hpb,hCB,hsB⟩:=pair_box wr q hqf;have hIB:=hI.out.after hCB;have hB1:=hpb.c0;have hB2:=hpb.c1;have hB3:=hpb.c2;have hBf:=hpb.from hqf;have hBt:=hpb.to hqf;obtain⟨qs,hqs⟩:∃ s,s=q.1.1:=⟨_,rfl⟩;obtain⟨qu,hqu⟩:∃ s,s=q.1.2.1:=⟨_,rfl⟩;obtain⟨qi,hqi⟩:∃ s,s=q.1.2.2:=⟨_,rfl⟩;obtain⟨QF,hQF⟩:∃ s,s=q.2.1:=⟨_,rfl⟩;obtain⟨QT,hQT⟩:∃ s,s=q.2.2:=⟨_,rfl⟩;have hQFl:QF.length=16:=hQF ▸ hqf.1;have hQTl:QT.length=16:=hQT ▸ hqf.2;rw[← hqs] at hB1;rw[← hqu] at hB2;rw[← hqi] at hB3;rw[← hQF] at hBf;rw[← hQT] at hBt;obtain⟨C,hC⟩:∃ C,C=(prCells q).toArray:=⟨_,rfl⟩;rw[← hC] at hld hst;have cP:wr.cell? ⟨c,1,none⟩=some (.slice (some ⟨gp,poff,none⟩) prs.length pc):=by rw[cell_of hI.out.st.box];rfl
         obtain⟨PL,hPL⟩:∃ L,L=prs.length:=⟨_,rfl⟩;rw[← hPL] at cP hp1;have hiP:i<PL:=by omega
         have hPLb:PL≤1000000:=by have:=hI.out.st.few;have:=hI.out.st.tape.within;have:=hI.out.st.tape.few;omega
         replace hPL:=LH hPL;replace hqs:=LH hqs;replace hqu:=LH hqu;replace hqi:=LH hqi;replace hQF:=LH hQF;replace hQT:=LH hQT;replace hC:=LH hC;replace hld:=LH hld;replace hst:=LH hst;replace hBf:=LH hBf;replace hBt:=LH hBt;replace hIB:=LH hIB;replace hpb:=LH hpb;replace hq:=LH hq;replace hqm:=LH hqm;replace hqf:=LH hqf;replace hsB:=LH hsB;replace hCB:=LH hCB;have hOB:=hO.out.keep (hCB.out.block ob (heap_lt hO.out) id);have hyo:=run_loadAt_arr (P:=prog) hOB underlying73 (size61 hyl);obtain⟨YV,hYV⟩:∃ v,v=(u8s y).toArray:=⟨_,rfl⟩;rw[← hYV] at hyo
         have hany:∀ t:Bool,uses (key,un,im) true y q=t→(prs.take (i+1)).any (uses (key,un,im) true y)=((prs.take i).any (uses (key,un,im) true y) || t):=by
          intro t ht;rw[take_snoc hq.out,List.any_append,List.any_cons,List.any_nil,ht,Bool.or_false]
         obtain⟨U,hU⟩:∃ U,U=(prs.take i).any (uses (key,un,im) true y):=⟨_,rfl⟩;rw[← hU] at hany ⊢;replace hU:=LH hU;replace hOB:=LH hOB;replace hyo:=LH hyo;replace hYV:=LH hYV;clear hI hO
         go_upto_region 23 with (first|(refine wpList_load rfl 112 _ rfl _ _ rfl hld.out ?_)|(refine wpList_store rfl 112 _ _ rfl _ _ rfl rfl hst.out ?_))
         generalize hEE:Exit.inBlock 7 _=EE;replace hEE:=LH hEE;cases U with
         | true=>
          have hN:(prs.take (i+1)).any (uses (key,un,im) true y)=true:=by rw[hany _ rfl,Bool.true_or]
          replace hN:=LH hN;clear hany hU;go_wp2;rw[← hEE.out];clear hEE;go_wp2;go_roundg g4
          case measure=>omega
          case rel=>exact⟨i+1,by omega,by go_num,by rw[hN.out],hIB.out,hOB.out⟩
         | false=>
          by_cases e1:qs=key
          ·by_cases e2:qu=un
           ·by_cases e3:qi=im
            ·have hx2:=hBf.out;by_cases e4:QF=y
             ·have hN:(prs.take (i+1)).any (uses (key,un,im) true y)=true:=by
               rw[hany true (decide_eq_true ⟨by rw[← e1,← e2,← e3,hqs.out,hqu.out,hqi.out],(by rw[← hQF.out];exact e4)⟩),Bool.or_true]
              have hbe:=fun w3=>blk_eql w3 hQFl hyl
              rw[decide_eq_true e4] at hbe;obtain⟨OV,hOV⟩:∃ v,v=(u8s QF).toArray:=⟨_,rfl⟩;rw[← hOV] at hx2 hbe;rw[← hYV.out] at hbe;replace hx2:=LH hx2;replace hOV:=LH hOV;replace hN:=LH hN;replace e4:=LH e4;subst e1;subst e2;subst e3;have e1:=str_eq qs;have e2:=int_eq qu;have e3:=int_eq qi;clear hany hU
              go_wp2_with (first|(refine wpList_loadG ?_ 73 _ rfl _ _ rfl hx2.out ?_;· rfl)|(refine wpList_loadG ?_ 73 _ rfl _ _ rfl hyo.out ?_;· rfl))
              rw[← hEE.out];clear hEE;go_wp2;go_roundg g4
              case measure=>omega
              case rel=>exact⟨i+1,by omega,by go_num,by rw[hN.out],hIB.out,hOB.out⟩
             ·have hN:(prs.take (i+1)).any (uses (key,un,im) true y)=false:=by
               rw[hany false (decide_eq_false (fun e=>e4 (by rw[hQF.out];exact e.2))),Bool.or_false]
              have hbe:=fun w3=>blk_eql w3 hQFl hyl
              rw[decide_eq_false e4] at hbe;obtain⟨OV,hOV⟩:∃ v,v=(u8s QF).toArray:=⟨_,rfl⟩;rw[← hOV] at hx2 hbe;rw[← hYV.out] at hbe;replace hx2:=LH hx2;replace hOV:=LH hOV;replace hN:=LH hN;replace e4:=LH e4;subst e1;subst e2;subst e3;have e1:=str_eq qs;have e2:=int_eq qu;have e3:=int_eq qi;clear hany hU
              go_wp2_with (first|(refine wpList_loadG ?_ 73 _ rfl _ _ rfl hx2.out ?_;· rfl)|(refine wpList_loadG ?_ 73 _ rfl _ _ rfl hyo.out ?_;· rfl))
              rw[← hEE.out];clear hEE;go_wp2;go_roundg g4
              case measure=>omega
              case rel=>exact⟨i+1,by omega,by go_num,by rw[hN.out],hIB.out,hOB.out⟩
            ·have hN:(prs.take (i+1)).any (uses (key,un,im) true y)=false:=by rw[hany false (decide_eq_false (fun e=>e3 (by rw[hqi.out,e.1]))),Bool.false_or]
             replace hN:=LH hN;subst e1;subst e2;have e1:=str_eq qs;have e2:=int_eq qu;replace e3:=int_ne e3;clear hany hU;go_wp2;rw[← hEE.out];clear hEE;go_wp2;go_roundg g4
             case measure=>omega
             case rel=>exact⟨i+1,by omega,by go_num,by rw[hN.out],hIB.out,hOB.out⟩
           ·have hN:(prs.take (i+1)).any (uses (key,un,im) true y)=false:=by rw[hany false (decide_eq_false (fun e=>e2 (by rw[hqu.out,e.1]))),Bool.false_or]
            replace hN:=LH hN;subst e1;have e1:=str_eq qs;replace e2:=int_ne e2;clear hany hU;go_wp2;rw[← hEE.out];clear hEE;go_wp2;go_roundg g4
            case measure=>omega
            case rel=>exact⟨i+1,by omega,by go_num,by rw[hN.out],hIB.out,hOB.out⟩
          ·have hN:(prs.take (i+1)).any (uses (key,un,im) true y)=false:=by rw[hany false (decide_eq_false (fun e=>e1 (by rw[hqs.out,e.1]))),Bool.false_or]
           replace hN:=LH hN;replace e1:=str_ne e1;clear hany hU;go_wp2;rw[← hEE.out];clear hEE;go_wp2;go_roundg g4
           case measure=>omega
           case rel=>exact⟨i+1,by omega,by go_num,by rw[hN.out],hIB.out,hOB.out⟩
        ·have hall:(prs.take i).any (uses (key,un,im) true y)=us y:=by rw[List.take_of_length_le (by omega),hus.out,usedM]
         rw[hall];obtain⟨U,hU⟩:∃ U,U=us y:=⟨_,rfl⟩;rw[← hU];have cP:wr.cell? ⟨c,1,none⟩=some (.slice pa PL pc):=by rw[cell_of hI.out.st.box,hPL.out];rfl
         have hiN2:PL≤i:=by have:=hPL.out;omega
         have hiL2:i≤PL:=by have:=hPL.out;omega
         replace hall:=LH hall;replace hU:=LH hU;clear hi hig hiN hiL;cases U with
         | true=>
          have hPn:=hP.out;rw[pickB_used (by omega) (by rw[← hy.out];exact hU.out.symm)] at hPn;have c3:wr.cell? ⟨c,3,none⟩=some (.int .i64 ag1):=by rw[cell_of hI.out.st.box];rfl
          have f3:wr.frozen? ⟨c,3,none⟩=false:=frozen_of hI.out.st.box 3;have hIa:=hI.out.again (by omega);have hbb:=hI.out.st.tape.few;replace hPn:=LH hPn;replace hIa:=LH hIa;clear hI hP;go_wp2;go_roundg gk'
          case measure=>omega
          case rel=>exact⟨lv',a1+16,k1+1,ag1+1,ob,by omega,hPn.out,hIa.out⟩
         | false=>
          have hPn:=hP.out;rw[pickB_new (by omega) (by rw[← hy.out];exact hU.out.symm),← hy.out] at hPn;have hRe:=hR.out;rw[cryptM_hit hlook.out (show pickB b (usedM prs (key,un,im) true) b.length a=(some y,a1+16) by rw[← hus.out,← hRP.out,← hPn])] at hRe;have hokN:=hok0.out.new (k:=(key,un,im)) hk.out hx hyl hlook.out (by rw[← hus.out];exact hU.out.symm);replace hRe:=LH hRe;replace hPn:=LH hPn;have hx1:=run_loadAt_arr (P:=prog) hI.out.inp underlying73 (size61 hx);have ho1:=run_loadAt_arr (P:=prog) hO.out underlying73 (size61 hyl);obtain⟨wB,hst,hpb,hCB,hsB⟩:=pair_box wr ((key,un,im),x,y) ⟨hx,hyl⟩;have hIB:=hI.out.after hCB;have hOB:=hO.out.keep (hCB.block ob (heap_lt hO.out) id);obtain⟨pbx,hpbx⟩:∃ z,z=wr.heap.size:=⟨_,rfl⟩;have hbd:=fun (w3:World)=>run_buildPair hx hyl key un im w3
          obtain⟨XV,hXV⟩:∃ v,v=(u8s x).toArray:=⟨_,rfl⟩;obtain⟨YV,hYV⟩:∃ v,v=(u8s y).toArray:=⟨_,rfl⟩;obtain⟨CV,hCV⟩:∃ v,v=(prCells ((key,un,im),x,y)).toArray:=⟨_,rfl⟩
          have hex:∀ {ρ:Operand→Value}{p0 p1 p2 p3 p4:Operand}{ds:Option Tmp}{ty:TypeId}{ps:String}{af:Array Edge}{gu:Option (Nat×Bool)}(h0:ρ p0=.string key) (h1:ρ p1=.int .i64 un) (h2:ρ p2=.int .i64 im) (h3:ρ p3=.agg XV) (h4:ρ p4=.agg YV) (w3:World),
            (execOp ρ ⟨ds,.build 112 #[(0,p0),(1,p1),(2,p2),(3,p3),(4,p4)],ty,ps,af,gu⟩).run prog w3=.ok (.value (.agg CV)) w3:=by
           intro ρ p0 p1 p2 p3 p4 ds ty ps af gu h0 h1 h2 h3 h4 w3;rw[hCV];exact ex_buildPair hx hyl h0 h1 h2 (by rw[h3,hXV]) (by rw[h4,hYV]) w3
          have hobp:=LH (show ¬ ob=pbx by have:=heap_lt hO.out;omega);have hpo:=LH (show ob≤pbx by have:=heap_lt hO.out;omega);rw[← hXV] at hx1;rw[← hYV] at ho1;rw[← hCV] at hst;rw[← hpbx] at hpb;replace hx1:=LH hx1;replace ho1:=LH ho1;replace hst:=LH hst;replace hXV:=LH hXV;replace hYV:=LH hYV;replace hCV:=LH hCV;replace hpbx:=LH hpbx;replace hpb:=LH hpb;replace hIB:=LH hIB;replace hOB:=LH hOB;replace hokN:=LH hokN;replace hsB:=LH hsB;clear hI hO hP hCB hbd
          go_wp2_with (first|(refine wpList_load rfl 73 _ rfl _ _ rfl hx1.out ?_)|(refine wpList_load rfl 73 _ rfl _ _ rfl ho1.out ?_)|(refine wpList_run rfl _ (hex rfl rfl rfl rfl rfl _) ?_)|(refine wpList_store rfl 112 _ _ rfl _ _ rfl rfl hst.out ?_))
          rw[← hpbx.out];clear hx1 ho1 hst hex;have hlx:∀ w5,Chg (fun g=>g=pbx) wB w5→(Instr.loadAt 73 (.pointer (some ⟨n,0,none⟩))).run prog w5=.ok (.agg (u8s x).toArray) w5:=fun w5 h5=>run_loadAt_arr (P:=prog) (hIB.out.inp.keep (h5.block n (heap_lt hIB.out.inp) (by have:=hIB.out.size;have:=hpbx.out;have:=hsB.out;have:=hn2;omega))) underlying73 (size61 hx)
          have hly:∀ w5,Chg (fun g=>g=pbx) wB w5→(Instr.loadAt 73 (.pointer (some ⟨ob,0,none⟩))).run prog w5=.ok (.agg (u8s y).toArray) w5:=fun w5 h5=>run_loadAt_arr (P:=prog) (hOB.out.keep (h5.block ob (heap_lt hOB.out) hobp.out)) underlying73 (size61 hyl)
          have hdr:∀ w3,Chg (fun g=>g=pbx) wB.drew w3→Chg (fun g=>g=pbx) wB w3:=fun w3 h=>⟨h.os,h.tape,h.output,h.size,h.block⟩
          replace hlx:=LH hlx;replace hly:=LH hly;replace hdr:=LH hdr;refine RA.region (fun a b=>Chg (fun g=>g=pbx) a b) (·=·) [1,1,1,4,1,4] (fun _ _ _=>True) (fun w5=>PairBox w5 pbx ((key,un,im),x,y)) (by kernel_rfl) (Chg.refl _ _) (fun _ _ h=>h ▸ Chg.refl _ _) (fun _ _ _ h k=>h.trans k) (fun _ _ h k=>h ▸ k) (hpb.out.keep rfl) (by kernel_rfl) ?_;intro cx;refine RA.ld (by kernel_rfl) (by rfl) (by rfl) (y':=.agg (u8s y).toArray) (fun w3 hp=>hly.out w3 (hdr.out _ hp.1)) ?_;refine RA.ld (by kernel_rfl) (by rfl) (by rfl) (y':=.agg (u8s x).toArray) (fun w3 hp=>hlx.out w3 (hdr.out _ hp.1)) ?_;refine RA.fa (by kernel_rfl) (by rfl) (by rfl) (y':=.pointer (some ⟨pbx,3,none⟩)) (fun w3 hp=>by show (Instr.fieldAt _ _ _).run prog w3=_;go_simp) ?_
          refine RA.st (fun w5=>PairBox w5 pbx ((key,un,im),y,y)) (by kernel_rfl) (by rfl) (by kernel_rfl) (fun _ _ h k=>h ▸ k) (fun w5 hp hH=>by
           obtain⟨w6,h1,h2,h3⟩:=PairBox.setFrom hH hx hyl hyl;exact⟨w6,RA.ex_store (by rfl) (by rfl) h1,h3,h2⟩) ?_
          refine RA.fa (by kernel_rfl) (by rfl) (by rfl) (y':=.pointer (some ⟨pbx,19,none⟩)) (fun w3 hp=>by show (Instr.fieldAt _ _ _).run prog w3=_;go_simp) ?_
          refine RA.st (fun w5=>PairBox w5 pbx ((key,un,im),y,x)) (by kernel_rfl) (by rfl) (by kernel_rfl) (fun _ _ h k=>h ▸ k) (fun w5 hp hH=>by
           obtain⟨w6,h1,h2,h3⟩:=PairBox.setTo hH hyl hyl hx;exact⟨w6,RA.ex_store (by rfl) (by rfl) h1,h3,h2⟩) ?_
          refine RA.RA.done rfl (fun wS hR hF hH=>?_);clear hF;simp only[RA.put,List.foldr_cons,List.foldr_nil,cx,Act.put,List.setIfInBounds_toArray,List.set_cons_succ,List.set_cons_zero];have hRS:=hdr.out _ hR;have hIS:=hIB.out.far (z:=wS) (hRS.mono (fun g hg e=>by have:=hpo.out;omega)) hn2;have hOS:=hOB.out.keep (hRS.block ob (heap_lt hOB.out) hobp.out);have hpbS:=LH hH;replace hIS:=LH hIS;replace hOS:=LH hOS;clear hH hR hRS hpb hIB hOB hlx hly hdr;go_wp2;have hPf:(newPR (key,un,im) x y true).2.1.length=16∧(newPR (key,un,im) x y true).2.2.length=16:=⟨hyl,hx⟩;have hokN2:=hokN.out;have hRe2:=hRe.out;have hpb2:PairBox wS pbx (newPR (key,un,im) x y true):=hpbS.out;obtain⟨P,hPd⟩:∃ P,P=newPR (key,un,im) x y true:=⟨_,rfl⟩;rw[← hPd] at hPf hokN2 hRe2 hpb2;obtain⟨N1,hN1⟩:∃ z,z=wS.heap.size:=⟨_,rfl⟩;have hnN:n+2≤N1:=by have:=hIS.out.size;omega
          have hcn:=hIS.out.cn;have hdr:∀ w3,Chg No wS.drew w3→Chg No wS w3:=fun w3 h=>⟨h.os,h.tape,h.output,h.size,h.block⟩
          have cL:wS.cell? ⟨c,1,none⟩=some (.slice pa PL pc):=by rw[cell_of hIS.out.st.box,hPL.out];rfl
          have hcl:c<wS.heap.size:=heap_lt hIS.out.st.box;obtain⟨FC,hFC⟩:∃ l,l=prs.flatMap prCells:=⟨_,rfl⟩
          have hxw:∀ w3,Chg No wS w3→Cells w3 (fun _=>True) (.slice pa PL pc) PL 35 FC:=fun w3 hc=>by
           rw[hPL.out,hFC];exact (hIS.out.st.row.chg hc (fun _ _ _=>id)).mono (fun _ _ _=>trivial)
          have hF1:∀ u ∈ FC,u.oneCell'=true:=hFC ▸ prs_one prs;have hldP:∀ w3,Chg No wS w3→(Instr.loadAt 112 (.pointer (some ⟨pbx,0,none⟩))).run prog w3=.ok (.agg (prCells P).toArray) w3:=fun w3 hc=>PairBox.load (hpb2.keep (hc.block pbx (heap_lt hpb2) id)) hPf
          have hlit:=fun w3=>run_litPair (q:=P) hPf w3
          have hPl:=prCells_length hPf;have hP1:=prCells_one P;obtain⟨CL,hCL⟩:∃ l,l=prCells P:=⟨_,rfl⟩;rw[← hCL] at hldP hPl hP1;simp only[← hCL] at hlit;replace hPd:=LH hPd;replace hPf:=LH hPf;replace hokN2:=LH hokN2;replace hRe2:=LH hRe2;replace hpb2:=LH hpb2;replace hN1:=LH hN1;replace hdr:=LH hdr;replace cL:=LH cL;replace hFC:=LH hFC;replace hxw:=LH hxw;replace hF1:=LH hF1;replace hldP:=LH hldP;replace hlit:=LH hlit;replace hPl:=LH hPl;replace hP1:=LH hP1;replace hCL:=LH hCL;clear hokN hRe hpbS;refine RA.regionT (Chg No) (Chg No) [5,2,1,1,1,1,3,1,2,6,5,5,7] [9,12] (fun i v w3=>if i=1 then (∃ g,v=.slice (some ⟨g,0,none⟩) 0 0∧N1≤g∧w3.heap[g]?=some (.cells #[] 112 (0,0))) else Cells w3 (fun g=>N1≤g) v 1 35 CL) (fun _=>True) (by kernel_rfl) (Chg.refl _ _) (fun _ _ h=>h) (fun _ _ _ h k=>h.trans k) (fun _ _ h k=>k) trivial (by kernel_rfl) (by kernel_rfl) ?_;intro cx;refine RA.pq (h:=?_)
          refine RA.fr (by kernel_rfl) (by rfl) (fun v a b h h2=>by
           have h2:∃ g,v=.slice (some ⟨g,0,none⟩) 0 0∧N1≤g∧a.heap[g]?=some (.cells #[] 112 (0,0)):=h2;obtain⟨g,e1,e2,e3⟩:=h2;show ∃ g,v=.slice (some ⟨g,0,none⟩) 0 0∧N1≤g∧b.heap[g]?=some (.cells #[] 112 (0,0))
           exact⟨g,e1,e2,(h.block g (heap_lt e3) id).trans e3⟩) (fun w3 hp=>⟨.slice (some ⟨w3.heap.size,0,none⟩) 0 0,w3.alloc (.cells #[] 112),by
            show (execOp _ _).run prog w3=_;go_simp,(Chg.refl _ _).alloc _,by
            show ∃ g,_∧_∧_;exact⟨_,rfl,hN1.out ▸ (hdr.out _ hp.1).size,heap_alloc_new w3 _⟩⟩) (fun x0=>?_)
          repeat refine RA.qq (h:=?_)
          refine RA.fk prog (c) (1) (h:=?_);refine RA.lk prog (.slice pa PL pc) (hc:=fun w3 hp=>by exact ((hdr.out _ hp.1).cell (p:=⟨c,1,none⟩) hcl id).trans cL.out) (h:=?_)
          refine RA.bq (fun v w3=>w3.ownsRow N1 112 35 v PL FC) (fun _ _=>True) (by kernel_rfl) (by rfl) (by kernel_rfl) (fun _ _ _ h k=>owns_keep k (fun g hg=>h.block g (k.lt g hg).2 id)) (fun _ _ _ _ _=>trivial) (fun w3 hp _=>by
           have hf:∃ g,x0=.slice (some ⟨g,0,none⟩) 0 0∧N1≤g∧w3.heap[g]?=some (.cells #[] 112 (0,0)):=hp.fact 0 rfl (by kernel_rfl);obtain⟨g,rfl,e2,e3⟩:=hf;obtain⟨v',w4,r1,r2,r3⟩:=append_new (bytes:=64) underlying59 infoPair rfl (by decide) e3 (hxw.out w3 (hdr.out _ hp.1)) hF1.out (by unfold maxLen;omega) (by omega) e2 59;exact⟨v',w4,RA.ex_append (by rfl) (by rfl) r1,r3,r2,trivial⟩) (fun x1=>?_)
          refine RA.ld (by kernel_rfl) (by rfl) (by rfl) (y':=.agg CL.toArray) (fun w3 hp=>hldP.out w3 (hdr.out _ hp.1)) ?_
          refine RA.fr (by kernel_rfl) (by rfl) (fun v a' b h h2=>by
           have h2:Cells a' (fun g=>N1≤g) v 1 35 CL:=h2;show Cells b (fun g=>N1≤g) v 1 35 CL
           exact h2.chg h (fun _ _ _=>id)) (fun w3 hp=>⟨.slice (some ⟨w3.heap.size,0,none⟩) 1 1,w3.alloc (.cells CL.toArray 112),ex_lit35 (hlit.out w3) (RA.evo_ev (by rfl)),(Chg.refl _ _).alloc _,by
            show Cells _ (fun g=>N1≤g) _ 1 35 CL;exact (Cells.own (World.ownsRow_lit (base:=N1) (e:=112) (size:=35) w3 CL.toArray 1 (hN1.out ▸ (hdr.out _ hp.1).size) (by unfold maxLen;omega) (by simpa using hPl.out))).mono (fun _ _ h=>h.2)⟩) (fun x2=>?_)
          refine RA.bqt (fun v' w4=>(∃ g cp,v'=.slice (some ⟨g,0,none⟩) (PL+1) cp)∧w4.ownsRow N1 112 35 v' (PL+1) (FC++CL)∧Chg No wS w4) (by kernel_rfl) (by rfl) (by kernel_rfl) (fun v _ _ h hk=>⟨hk.1,owns_keep hk.2.1 (fun g hg=>h.block g (hk.2.1.lt g hg).2 id),hk.2.2.trans h⟩) (fun w3 hp0 _=>by
           have hp:=hp0.first (by kernel_rfl);have f1:w3.ownsRow N1 112 35 x1 PL FC:=hp.fact 1 rfl (by kernel_rfl);have f2:Cells w3 (fun g=>N1≤g) x2 1 35 CL:=hp.fact 0 rfl (by kernel_rfl);have hR:=hdr.out _ hp.1;obtain⟨v',w4,r1,r2,r3,r4⟩:=own_push (P:=prog) (bytes:=64) underlying59 infoPair rfl (by decide) f1 (hN1.out ▸ hR.size) (Chg.refl _ w3) f2 hP1.out (by unfold maxLen;omega) (by omega) 59;obtain⟨g,cp,hv,_,_⟩:=own_shape r2 (by omega);refine⟨v',w4,RA.ex_append (by rfl) (by rfl) r1,⟨g,cp,hv⟩,r2,hR.then r3 (fun g hg e=>?_)⟩;have:=(f1.lt g e).1;have:=hN1.out;omega) (fun x3=>?_)
          refine RA.pq (h:=?_);refine RA.pk prog (c) (1) (h:=?_)
          refine RA.stt (fun w5=>(∃ g cp,x3=.slice (some ⟨g,0,none⟩) (PL+1) cp)∧w5.ownsRow N1 112 35 x3 (PL+1) (FC++CL)∧w5.heap[c]?=some (.cells #[.pointer (some ⟨tp,0,none⟩),x3,kv,.int .i64 ag1] 62 (0,0))∧Chg (fun g=>g=c) wS w5) (by rfl) (by rfl) (by kernel_rfl) (fun _ _ h hk=>⟨hk.1,owns_keep hk.2.1 (fun g hg=>h.block g (hk.2.1.lt g hg).2 id),(h.block c (heap_lt hk.2.2.1) id).trans hk.2.2.1,hk.2.2.2.then h (fun _ _ e=>e.elim)⟩) (fun w4 _ hH=>by
           obtain⟨⟨g',cp,rfl⟩,f2,f3⟩:=hH;have hbx:=(f3.block c hcl id).trans hIS.out.st.box;have z0:=frozen_of hbx 1;have z1:w4.cell? ⟨c,1,none⟩=some (.slice pa prs.length pc):=cell_of hbx 1;have hgp:g'≠c:=by have:=(f2.lt g' rfl).1;omega
           refine⟨_,RA.ex_store (by rfl) (by rfl) (w':=w4.setCell ⟨c,1,none⟩ (.slice (some ⟨g',0,none⟩) (PL+1) cp)) ?_,⟨g',cp,rfl⟩,owns_keep f2 (fun g hg=>setCell_heap_ne _ _ _ (by simp only[Value.ownBlock,Option.some.injEq] at hg;exact hg ▸ hgp)),by rw[setCell_block hbx];rfl,Chg.setCell (C:=fun g=>g=c) (p:=⟨c,1,none⟩) (f3.mono (fun _ _ e=>e.elim)) (fun _=>rfl) _⟩;clear hbx f2 f3;show (Instr.storeAt _ _ _).run prog w4=_;go_simp) ?_
          refine RA.RA.doneT (fun w5 hH=>?_);simp only[RA.put,List.foldr_cons,List.foldr_nil,cx,Act.put,List.setIfInBounds_toArray,List.set_cons_succ,List.set_cons_zero];obtain⟨⟨g',cp,rfl⟩,hO5,hX5,hC5⟩:=hH;have hob5:=hOS.out.keep (hC5.block ob (heap_lt hOS.out) (by omega));have hI5:=hIS.out.pushed (P:=P) (m':=w5.heap.size) hX5 hC5 (by rw[← hPL.out,← hFC.out,← hCL.out];exact hO5) hnN hokN2.out (by omega) (Nat.le_of_lt (heap_lt hob5)) (Nat.le_refl _);have hl9:=run_loadAt_arr (P:=prog) hob5 underlying73 (size61 hyl);have hs9:=block_store' hI5.res List.length_replicate y hyl;have hF9:=hI5.fin h.out y;obtain⟨w9,hw9⟩:∃ z,z=w5.setRow (n+1) (u8s y).toArray:=⟨_,rfl⟩;rw[← hw9] at hs9 hF9;obtain⟨hfin,hres,hch⟩:=hF9;obtain⟨YW,hYW⟩:∃ v,v=(u8s y).toArray:=⟨_,rfl⟩;have hfl:=LH (show (prog.info? 73).map (·.size)=some (u8s y).toArray.size by rw[size61 hyl];simp[u8s_length]);rw[← hYW] at hl9 hs9;replace hl9:=LH hl9;replace hs9:=LH hs9;replace hres:=LH hres;replace hfin:=LH hfin;replace hch:=LH hch;replace hw9:=LH hw9;replace hYW:=LH hYW;clear hO5 hX5 hC5 hI5 hob5 hIS hOS
          go_wp2_with (first|(refine wpList_load rfl 73 _ rfl _ _ rfl hl9.out ?_)|(refine wpList_store rfl 73 _ _ rfl _ _ rfl rfl hs9.out ?_))
          refine bodyPost_ret (results_cell_slot results27 _ _ (n+1) 73 _ (0,0) _ rfl hres.out underlying73 rfl hfl.out) rfl ⟨?_,⟨lv',.slice (some ⟨g',0,none⟩) (PL+1) cp,k1+1,ag1,?_⟩,hch.out⟩
          ·rw[hRe2.out];rfl
          ·rw[hRe2.out];exact hfin.out
end Go.Proofs.YtbgfdbidbjlaaaaGreat.Fd
