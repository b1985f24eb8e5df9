/- Parts: commonplaceref02.Equal: has one value all that the other one has? Condition: a bulk of at most 10^8. -/
import Derived.Test.YtobmaegpfbheoaaGreatDoorKMo12
import Derived.Test.YtobmaegpfbheoaaGreatDoorKMo13
set_option maxHeartbeats 20000000
set_option maxRecDepth 100000
namespace Go.Proofs.YtobmaegpfbheoaaGreatDoor
open Go Go.RowKit
theorem Ads {c:UInt8} (h:c.toNat<128) (l:List UInt8):Lib.decodeL (c::l)=(c.toNat,1):=by
 rw[Fc];unfold Lib.decodeN;rw[if_pos (by simpa using h)];simp
theorem Q6 {c:UInt8} {l:List UInt8} (hd: ¬((Lib.decodeL (c::l)).1=65533/\(Lib.decodeL (c::l)).2=1)):(32<=(Lib.decodeL (c::l)).1/\(Lib.decodeL (c::l)).1≠34/\(Lib.decodeL (c::l)).1≠92) ↔ (¬c.toNat<32/\c≠34/\c≠92):=by
 by_cases h:c.toNat<128
 . rw[Ads h];have e34:c=34 ↔ c.toNat=34:=⟨fun e=>by rw[e];rfl,fun e=>UInt8.toNat_inj.1 e⟩;have e92:c=92 ↔ c.toNat=92:=⟨fun e=>by rw[e];rfl,fun e=>UInt8.toNat_inj.1 e⟩;simp only[ne_eq,e34,e92];omega
 . have hr:128<=(Lib.decodeL (c::l)).1:=by
    have he:=Lib.encode_decode (c::l) (by simp) hd;have hs:=R3 (l:=c::l) (by simp) hd;have hw:=Lib.decodeL_width (c::l);have hc:c ∈ Lib.encodeRune ((Lib.decodeL (c::l)).1:Int):=by
     rw[he];obtain⟨n,hn⟩: ∃n,(Lib.decodeL (c::l)).2=n+1:=⟨(Lib.decodeL (c::l)).2 - 1,by omega⟩;rw[hn];simp
    have:=O1 hs c hc;omega
   have n34:c≠34:=by rintro rfl;exact h (by decide)
   have n92:c≠92:=by rintro rfl;exact h (by decide)
   exact⟨fun _=>⟨by omega,n34,n92⟩,fun _=>⟨by omega,by omega,by omega⟩⟩
theorem Aaz {s:List UInt8} {i:Nat} (h:i<s.length): ∃c,s[i]? =some c/\s.drop i=c::s.drop (i+1):=by
 refine⟨s[i],List.getElem?_eq_getElem h,List.drop_eq_getElem_cons h⟩
theorem Vd: ∀(n f:Nat) (s:List UInt8) (i:Nat) (out:List UInt8),i<=s.length->s.length - i<f->
 ∃f',s.length - (i+Fe n (s.drop i))<f'/\J3 f s i out=J3 f' s (i+Fe n (s.drop i)) (out++(s.drop i).take (Fe n (s.drop i)))
 |0,f,s,i,out,hi,hf=>⟨f,by simpa[Fe]using hf,by simp[Fe]⟩
 |n+1,f,s,i,out,hi,hf=>by
  by_cases hlt:i<s.length;rotate_left
  . have e:s.drop i= []:=List.drop_eq_nil_of_le (by omega);refine⟨f, ?_, ?_⟩<;>simp[Fe,e]
    omega
  obtain⟨c,hc,hd⟩:=Aaz hlt;have hne:s.drop i≠ []:=by rw[hd];simp
  simp only[Fe];rw[if_neg hne];by_cases h2:(Lib.decodeL (s.drop i)).1=65533/\(Lib.decodeL (s.drop i)).2=1
  . rw[if_pos h2];exact⟨f,by simpa using hf,by simp⟩
  rw[if_neg h2];by_cases h3:32<=(Lib.decodeL (s.drop i)).1/\(Lib.decodeL (s.drop i)).1≠34/\(Lib.decodeL (s.drop i)).1≠92;rotate_left
  . rw[if_neg h3];exact⟨f,by simpa using hf,by simp⟩
  rw[if_pos h3];have hb:=h3;rw[hd]at hb h2;have hb':=(Q6 h2).1 hb;rw[<-hd]at h2;obtain⟨f,rfl⟩: ∃g,f=g+1:=⟨f - 1,by omega⟩;have hw:=Lib.decodeL_width (s.drop i);have hle:=Afw hlt;have e1:J3 (f+1) s i out=J3 f s (i+(Lib.decodeL (s.drop i)).2) (out++(s.drop i).take (Lib.decodeL (s.drop i)).2):=by
   conv=>lhs;unfold J3
   rw[hc];simp only;rw[if_neg hb'.2.1,if_neg hb'.1,if_neg hb'.2.2,if_neg h2]
  obtain⟨f',h4,h5⟩:=Vd n f s (i+(Lib.decodeL (s.drop i)).2) (out++(s.drop i).take (Lib.decodeL (s.drop i)).2) hle (by omega);rw[<-List.drop_drop]at h4 h5;refine⟨f',by rw[<-Nat.add_assoc];exact h4, ?_⟩;rw[e1,h5,<-Nat.add_assoc,List.append_assoc,List.take_add]
theorem Abz {n f:Nat} {s:List UInt8} {i:Nat} {out:List UInt8} {c:UInt8} (hc:s[i]? =some c) (h34:c≠34) (h92:c≠92) (hp:Fe (n+1) (s.drop i)=0):J3 (f+1) s i out=.bad (if c.toNat<32 then 4 else 3) i:=by
 have hd:=I7 hc;have hne:s.drop i≠ []:=by rw[hd];simp
 simp only[Fe]at hp;rw[if_neg hne]at hp;unfold J3;rw[hc];simp only;rw[if_neg h34];by_cases h32:c.toNat<32
 . rw[if_pos h32,if_pos h32]
 rw[if_neg h32,if_neg h92,if_neg h32];by_cases h2:(Lib.decodeL (s.drop i)).1=65533/\(Lib.decodeL (s.drop i)).2=1
 . rw[if_pos h2]
 rw[if_neg h2]at hp;have h2':=h2;rw[hd]at h2';have h3:=(Q6 h2').2 ⟨h32,h34,h92⟩;rw[<-hd]at h3;rw[if_pos h3]at hp;have:=Lib.decodeL_width (s.drop i);omega
theorem Af2 {l:List UInt8} {e:Int} {q:Nat} (h:Lm l=.bad e q):e=3\/e=4:=by
 unfold Lm Ju Wk at h
 repeat' split at h
 all_goals first|(simp only[Rd.bad.injEq]at h;omega)|cases h
def Ahg (r:Rd (List UInt8)):Value:=match r with
 | .ok a q=> .tuple #[.string ⟨a.toArray⟩,.int .i64 (q:Nat),.int .i64 0]
 | .bad e q=> .tuple #[.string ⟨#[]⟩,.int .i64 (q:Nat),.int .i64 e]
theorem Tk {B g:Nat} {bs:List UInt8} {w:World} (h:BB w B g bs):Calls Tryz.prog 54 #[.pointer (some ⟨g,0,none⟩)] w fun e w'=>e=.returned (.string ⟨bs.toArray⟩)/\Below B w w':=by
 obtain⟨p,v,hB,hb,ht,_,h0,v',h1,hown⟩:=h;simp only[Nat.zero_add]at h1;have hv:v'=v:=by simpa using h1.symm
 subst hv;have hlt:g<w.heap.size:=(Array.getElem?_eq_some_iff.1 hb).1;refine Tryz.Builder_String_any B g bs w ?_ (by omega);have hne:=Lib.ownBlock_ne hown hb ht;have hat: ∀p',p=p'->Lib.BuilderAt 98 5 B g p' (Lib.byteCells bs) w:=fun p' e=>by
  subst e;exact⟨hB,v',hb,by have:=hown;simpa[Lib.byteCells]using this,hne⟩
 rcases h0 with h0|h0
 . exact .inl (hat _ (by simpa using h0))
 . exact .inr (hat _ (by simpa using h0))
def Ajf (W:World) (b:Nat) (m:Option Nat):Prop:= ∀mb,m=some mb->b<mb/\W.heap[mb]? =some (.map (Jp Ea 0).toArray Ea.length)
def UI (s:ByteArray) (w:World) (RES:Rd (List UInt8)) (i:Nat) (m:Option Nat) (wr:World):Prop:=
 ∃out f,Below w.heap.size w wr/\BB wr w.heap.size w.heap.size out/\Ajf wr w.heap.size m/\J3 f s.data.toList i out=RES/\s.size - i<f/\out.length<=i
theorem Ye {s:ByteArray} (i:Nat):(s.extract i s.size).data.toList=s.data.toList.drop i:=by
 rw[Lib.extract_data];exact List.take_of_length_le (by rw[List.length_drop,Am];omega)
theorem Aex (s:ByteArray) (k:Nat) (w:World) (hT:Cl w) (hs:s.size<=1000000000) (hk:k<=s.size):
 Calls Tryz.prog 250 #[.string s,.int .i64 k] w fun e w'=>e=.returned (Ahg (E8 s.data.toList k))/\Below w.heap.size w w':=by
 have hlen:=Am s;have n0: ¬((k:Int)<0):=by omega
 have n1: ¬((s.size:Int)<(k:Int)):=by omega
 by_cases hlt:k<s.size;rotate_left
 . obtain rfl:k=s.size:=by omega
   have e:E8 s.data.toList s.size=.bad 4 s.size:=by unfold E8;rw[if_neg (by rw[List.getElem?_eq_none (by omega)];simp)]
   rw[e];simp only[Ahg];clear e hlen;have HT:=qz hT;clear hT n1 hlt;go_enter Tryz.func250,Tryz.ntmps250;go_wp2
   go_step3
   go_wp2;rw[Exit.noGoto_ret];exact bodyPost_ret (Be rfl _ _ _) rfl ⟨rfl,Below.refl _ _⟩
 obtain⟨c,hc⟩: ∃c,s[k]=c:=⟨_,rfl⟩;have hg:s.data.toList[k]? =some c:=by rw[D6 s hlt,hc]
 have hcl:=Du c;have ne: ∀(c:UInt8) (n:Nat),n<256->c≠UInt8.ofNat n->((c.toNat:Int)==(n:Int))=false:=fun c n hn h=>by rw[Oz hn];simpa using h
 have e1:((k:Int)==(s.size:Int))=false:=by rw[beq_eq_false_iff_ne];omega
 by_cases h34:c=34;rotate_left
 . have e:E8 s.data.toList k=.bad 4 k:=by unfold E8;rw[if_neg (by rw[hg];simpa using h34)]
   rw[e];have e2:=ne c 34 (by decide) h34;simp only[Ahg];clear e hlen hg ne h34;have HT:=qz hT;clear hT;go_enter Tryz.func250,Tryz.ntmps250;go_wp2
   go_step3
   go_wp2;rw[Exit.noGoto_ret];exact bodyPost_ret (Be rfl _ _ _) rfl ⟨rfl,Below.refl _ _⟩
 subst h34;obtain⟨RES,hRES⟩: ∃R,E8 s.data.toList k=R:=⟨_,rfl⟩;rw[hRES];have hF:J3 (s.data.toList.length - k) s.data.toList (k+1) []=RES:=by
  rw[<-hRES];unfold E8;rw[if_pos hg]
 have hB0:BB (w.alloc (.cells #[.pointer none,.slice none 0 0] 98)) w.heap.size w.heap.size []:=
  ⟨_,_,Nat.le_refl _,heap_alloc_new _ _,by decide,by simp,.inl rfl,.slice none 0 0,rfl,World.ownsRow_nil _ _ _ _⟩
 have H0:Hid (UI s w RES (k+1) none (w.alloc (.cells #[.pointer none,.slice none 0 0] 98))):=⟨[],_,Aa _ _,hB0,fun mb e=>(by cases e),hF,by omega,by simp⟩;clear hRES hF hB0 hg hlen;have d0:decide ((k:Int)<0)=false:=decide_eq_false (by omega);have d1:decide (s.size<k)=false:=decide_eq_false (by omega);clear n0 n1;obtain⟨HT,Ne⟩:=hid2 hT ne;clear hT ne;go_enter Tryz.func250,Tryz.ntmps250;go_wp2
 go_step3
 go_wp2
 go_step3
 go_wp2;go_loopw [7,9] (fun m i wr=> ∃(j:Nat) (mm:Option Nat),m=.map mm/\i=.int .i64 j/\j<=s.size/\Hid (UI s w RES j mm wr)) (fun _ i _=>s.size - (intOf i).toNat)
 case atStart=>exact⟨k+1,none,rfl,by go_num,by omega,H0⟩
 case round=>
  obtain⟨j,mm,rfl,rfl,hj,hI⟩:=hrel;clear H0 e1 hc d0 d1;clear hlt hk;by_cases hlt:j<s.size
  . obtain⟨c,hc⟩: ∃c,s[j]=c:=⟨_,rfl⟩;have hg:s.data.toList[j]? =some c:=by rw[D6 s hlt,hc]
    have hcl:=Du c;have e1:((j:Int)==(s.size:Int))=false:=by rw[beq_eq_false_iff_ne];omega
    by_cases h34:c=34
    . subst h34;obtain⟨out,f,h1,h2,h3,h4,h5,h6⟩:=hI.out;obtain⟨f,rfl⟩: ∃g,f=g+1:=⟨f - 1,by omega⟩;have hR:RES=.ok out (j+1):=by
       rw[<-h4];unfold J3;rw[hg];simp
      have HS:=qz (Tk h2);obtain⟨H1,H2,H3,H4,HR⟩:=hid5 h1 h2 h3 h4 hR;clear h1 h2 h3 h4 hR;clear hI hg;go_wp2_with (fail);(with_reducible refine(HS.out).mono ?_);rintro e w2 ⟨rfl,hb2⟩;have hB:=qz (H1.out.trans hb2);clear hb2;go_wp2
      try rw[Exit.noGoto_ret]
      exact bodyPost_ret (Be rfl _ _ _) rfl ⟨by rw[HR.out];rfl,hB.out⟩
    have e34:=Ne.out c 34 (by decide) h34;by_cases h92:c=92
    . subst h92;obtain⟨out,f,h1,h2,h3,h4,h5,h6⟩:=hI.out;obtain⟨f,rfl⟩: ∃g,f=g+1:=⟨f - 1,by omega⟩;have hR:RES=match Lm (s.data.toList.drop j)with
       | .bad e _=> .bad e j
       | .ok r n=>J3 f s.data.toList (j+n) (out++Lib.encodeRune (r:Int)):=by
       rw[<-h4]
       conv=>lhs;unfold J3
       rw[hg];simp only;rw[if_neg (by decide),if_neg (by decide),if_pos trivial];rfl
      have hext:=Ye (s:=s) j;have hes:(s.extract j s.size).size<=1000000000:=by rw[ByteArray.size_extract];omega
      have hE:=fun(mb:Nat) (W:World) hm=>Wd (s.extract j s.size) mb W hes hm;rw[hext]at hE;have hok: ∀r n,Lm (s.data.toList.drop j)=.ok r n->r<=1114111/\2<=n/\j+n<=s.size/\(Lib.encodeRune (r:Int)).length<=n:=fun r n e=>by
       have a1:=Rn e;have a2:=Yc e;rw[List.length_drop,Am]at a1;exact⟨a1.1,a1.2.2.1,by omega,a2⟩
      have hbad: ∀e q,Lm (s.data.toList.drop j)=.bad e q->e=3\/e=4:=fun e q h=>Af2 h;clear hext hes hg h34;generalize Lm (s.data.toList.drop j)=X at hE hR hok hbad;have hnil:=fun(wx:World) (m0:Option Nat)=>run_eql_map_nil (P:=Tryz.prog) wx 246 _ _ m0 Tryz.underlying246;have key: ∀(W:World) (mb:Nat),Below w.heap.size w W->BB W w.heap.size w.heap.size out->w.heap.size<mb->W.heap[mb]? =some (.map (Jp Ea 0).toArray Ea.length)-> ∀r n,X=.ok r n->
       Calls Tryz.prog 257 #[.string (s.extract j s.size),.map (some mb)] W (fun e W'=>e=.returned (Rf X)/\W=W')/\
       (Calls Tryz.prog 204 #[.pointer (some ⟨w.heap.size,0,none⟩),.int .i32 r] W fun e W'=>(∃k:Int,e=.returned (.tuple #[.int .i64 k,.nilIface]))/\UI s w RES (j+n) (some mb) W'):=by
       intro W mb a1 a2 a3 a4 r n e;refine⟨hE mb W a4, ?_⟩;obtain⟨b1,b2,b3,b4⟩:=hok r n e;refine(Jv (r:Int) (by omega) (by omega) a2 (by omega)).mono ?_;rintro e' W' ⟨hk',hB',hb',hkp⟩;refine⟨hk',out++Lib.encodeRune (r:Int),f,a1.trans hb',hB',fun mb' e2=> ?_, ?_,by omega,by rw[List.length_append];omega⟩
       . cases e2
         exact⟨a3,hkp _ _ a4 (by simp;omega) (fun c fz e=>by cases e)⟩
       . rw[hR,e]
      have hU: ∀W,Calls Tryz.prog 256 #[] W fun e w'=>e=.returned (.map (some W.heap.size))/\W.alloc (.map (Jp Ea 0).toArray Ea.length)=w':=fun W=>Xb W;have hz1:=h1.size
      cases X with
      |bad e0 q0=>
       simp only[Rf]at hE hR;have hn0:(e0 != 0)=true:=by
        rcases hbad e0 q0 rfl with rfl|rfl<;>decide
       rcases mm with _|mb
       . have hm:=heap_alloc_new wr (.map (Jp Ea 0).toArray Ea.length);have HE':=qz (hE wr.heap.size _ hm);have Hbw:=qz (h1.alloc hz1 (.map (Jp Ea 0).toArray Ea.length));obtain⟨HU,H1,H2,H3,H4,HR,Key,Hok,Hm,Hbad⟩:=hid10 hU h1 h2 h3 h4 hR key hok hm hbad;clear hU h1 h2 h3 h4 hR key hok hm hbad;clear hI hE;go_wp2_with (fail);(with_reducible refine(HU.out _).mono ?_);rintro e w2 ⟨rfl,rfl⟩;go_wp2_with (fail);(with_reducible refine(HE'.out).mono ?_);rintro e w2 ⟨rfl,rfl⟩;go_wp2
         try rw[Exit.noGoto_ret]
         exact bodyPost_ret (Be rfl _ _ _) rfl ⟨by rw[HR.out];rfl,Hbw.out⟩
       . have hE':=hE mb _ (h3 mb rfl).2;obtain⟨HE',HU,H1,H2,H3,H4,HR,Key,Hok,Hbad⟩:=hid10 hE' hU h1 h2 h3 h4 hR key hok hbad;clear hE' hU h1 h2 h3 h4 hR key hok hbad;clear hI hE;go_wp2_with (fail);(with_reducible refine(HE'.out).mono ?_);rintro e w2 ⟨rfl,rfl⟩;go_wp2
         try rw[Exit.noGoto_ret]
         exact bodyPost_ret (Be rfl _ _ _) rfl ⟨by rw[HR.out];rfl,H1.out⟩
      |ok r n=>
       obtain⟨b1,b2,b3,b4⟩:=hok r n rfl;rcases mm with _|mb
       . obtain⟨k1,k2⟩:=key (wr.alloc (.map (Jp Ea 0).toArray Ea.length)) wr.heap.size (h1.alloc hz1 _) (h2.below (Aa _ _)) h2.lt (heap_alloc_new wr _) r n rfl;simp only[Rf]at k1;obtain⟨HU,H1,H2,H3,H4,HR,Key,Hok,K1,K2,Hbad⟩:=hid11 hU h1 h2 h3 h4 hR key hok k1 k2 hbad;clear hU h1 h2 h3 h4 hR key hok k1 k2 hbad;clear hI hE;go_wp2_with (fail);(with_reducible refine(HU.out _).mono ?_);rintro e w2 ⟨rfl,rfl⟩;go_wp2_with (fail);(with_reducible refine(K1.out).mono ?_);rintro e w2 ⟨rfl,rfl⟩;go_wp2_with (fail);(with_reducible refine(K2.out).mono ?_);rintro e w2 ⟨⟨z,rfl⟩,hu2⟩;have HU2:=qz hu2;clear hu2;go_wp2;go_roundw
         case rel=>exact⟨j+n,_,rfl,by go_num,by omega,HU2⟩
         case measure=>simp[intOf];omega
       . obtain⟨k1,k2⟩:=key wr mb h1 h2 (h3 mb rfl).1 (h3 mb rfl).2 r n rfl;simp only[Rf]at k1;obtain⟨HU,H1,H2,H3,H4,HR,Key,Hok,K1,K2,Hbad⟩:=hid11 hU h1 h2 h3 h4 hR key hok k1 k2 hbad;clear hU h1 h2 h3 h4 hR key hok k1 k2 hbad;clear hI hE;go_wp2_with (fail);(with_reducible refine(K1.out).mono ?_);rintro e w2 ⟨rfl,rfl⟩;go_wp2_with (fail);(with_reducible refine(K2.out).mono ?_);rintro e w2 ⟨⟨z,rfl⟩,hu2⟩;have HU2:=qz hu2;clear hu2;go_wp2;go_roundw
         case rel=>exact⟨j+n,_,rfl,by go_num,by omega,HU2⟩
         case measure=>simp[intOf];omega
    ·
     have e92:=Ne.out c 92 (by decide) h92;obtain⟨out,f,h1,h2,h3,h4,h5,h6⟩:=hI.out;have hext:=Ye (s:=s) j;have hsz:(s.extract j s.size).size=s.size - j:=by rw[ByteArray.size_extract];omega
     have hP:=Zf (s.extract j s.size) wr (HT.out.below h1) (by omega);rw[hext,hsz]at hP;obtain⟨nn,hnn⟩: ∃nn,s.size - j=nn+1:=⟨s.size - j - 1,by omega⟩;have hle:=Vc (s.size - j) (s.data.toList.drop j);rw[List.length_drop,Am]at hle;obtain⟨f',q1,q2⟩:=Vd (s.size - j) f s.data.toList j out (by rw[Am];omega) (by rw[Am];omega);rw[Am]at q1;have hnone:Fe (s.size - j) (s.data.toList.drop j)=0->RES=.bad (if c.toNat<32 then 4 else 3) j:=fun e=>by
      obtain⟨g,rfl⟩: ∃g,f=g+1:=⟨f - 1,by omega⟩;rw[hnn]at e;rw[<-h4,Abz hg h34 h92 e]
     generalize hpl:Fe (s.size - j) (s.data.toList.drop j)=p at hP hle q1 q2 hnone;clear hext hsz hnn hg h34 h92 hI hpl;by_cases hp0:p=0
     . subst hp0;have hR:=hnone rfl;have hW:=fun W=>T4 c W;have t0:((0:Int)==0)=true:=rfl;generalize (if c.toNat<32 then(4:Int)else 3)=E at hW hR;obtain⟨HP,H1,H2,H3,H4,HR,HW,Q2,Hnone⟩:=hid9 hP h1 h2 h3 h4 hR hW q2 hnone;clear hP h1 h2 h3 h4 hR hW q2 hnone;go_wp2_with (fail);(with_reducible refine(HP.out).mono ?_);rintro e w2 ⟨rfl,hb2⟩;have hB:=qz (H1.out.trans (hb2.mono H1.out.size));clear hb2;go_wp2_with (fail);(with_reducible refine(HW.out _).mono ?_);rintro e w3 ⟨rfl,rfl⟩;go_wp2
       try rw[Exit.noGoto_ret]
       exact bodyPost_ret (Be rfl _ _ _) rfl ⟨by rw[HR.out];rfl,hB.out⟩
     . have t0:((p:Int)==0)=false:=by rw[beq_eq_false_iff_ne];omega
       have hex:(s.extract j (j+p)).data.toList=(s.data.toList.drop j).take p:=by rw[Lib.extract_data];congr 1;omega
       have hsx:(s.extract j (j+p)).size=p:=by rw[ByteArray.size_extract];omega
       have hnext: ∀W W',Below wr.heap.size wr W->BB W' w.heap.size w.heap.size (out++(s.extract j (j+p)).data.toList)->Below w.heap.size W W'->Fu w.heap.size W W'->UI s w RES (j+p) mm W':=by
        intro W W' a1 a2 a3 a4;refine⟨_,f',(h1.trans (a1.mono h1.size)).trans a3,a2,fun mb e=> ?_,by rw[hex,<-q2];exact h4,q1,by rw[List.length_append,hex,List.length_take,List.length_drop];omega⟩;obtain⟨b1,b2⟩:=h3 mb e;have hlm:mb<wr.heap.size:=(Array.getElem?_eq_some_iff.1 b2).1;exact⟨b1,a4 _ _ ((a1.block mb hlm).trans b2) (by simp;omega) (fun c fz e=>by cases e)⟩
       have hWS: ∀W,Below wr.heap.size wr W->Calls Tryz.prog 151 #[.pointer (some ⟨w.heap.size,0,none⟩),.string (s.extract j (j+p))] W (fun e W'=>e=.returned (.tuple #[.int .i64 p,.nilIface])/\UI s w RES (j+p) mm W'):=by
        intro W a1;refine(J5 (s.extract j (j+p)) (h2.below a1) (by omega)).mono ?_;rintro e W' ⟨rfl,b1,b2,b3⟩;rw[hsx];exact⟨rfl,hnext W W' a1 b1 b2 b3⟩
       obtain⟨HP,H1,H2,H3,H4,Q2,Hnone,HWS,Hnext⟩:=hid9 hP h1 h2 h3 h4 q2 hnone hWS hnext;clear hP h1 h2 h3 h4 q2 hnone hWS hnext;clear hex hsx;go_wp2_with (fail);(with_reducible refine(HP.out).mono ?_);rintro e w2 ⟨rfl,hb2⟩;have HW2:=qz (HWS.out w2 hb2);have Hb2:=qz hb2;clear hb2;go_wp2_with (fail);(with_reducible refine(HW2.out).mono ?_);rintro e w3 ⟨rfl,hu2⟩;have HU2:=qz hu2;clear hu2;go_wp2;go_roundw
       case rel=>exact⟨j+p,_,rfl,by go_num,by omega,HU2⟩
       case measure=>simp[intOf];omega
  . obtain rfl:j=s.size:=by omega
    obtain⟨out,f,h1,h2,h3,h4,h5,h6⟩:=hI.out;obtain⟨f,rfl⟩: ∃g,f=g+1:=⟨f - 1,by omega⟩;have hR:RES=.bad 4 s.size:=by
     rw[<-h4];unfold J3;rw[List.getElem?_eq_none (by rw[Am];exact Nat.le_refl _)]
    obtain⟨H1,H2,H3,H4,HR⟩:=hid5 h1 h2 h3 h4 hR;clear h1 h2 h3 h4 hR;clear hI;go_wp2
    try rw[Exit.noGoto_ret]
    exact bodyPost_ret (Be rfl _ _ _) rfl ⟨by rw[HR.out];rfl,H1.out⟩
def Cb (p:Prop) (w:World) (e:Ending) (w':World):Prop:= ∃B:Bool,e=.returned (.bool B)/\(B=true ↔ p)/\Below w.heap.size w w'
theorem Cb.no {p:Prop} {w w':World} (h: ¬p) (hb:Below w.heap.size w w'):Cb p w (.returned (.bool false)) w':=⟨false,rfl,by simp[h],hb⟩
theorem Cb.yes {p:Prop} {w w':World} (h:p) (hb:Below w.heap.size w w'):Cb p w (.returned (.bool true)) w':=⟨true,rfl,by simp[h],hb⟩
def EqC (a:Val):Prop:= ∀(b:Val) (cs cs':List Value) (w:World),Ac w w.heap.size a cs->Ac w w.heap.size b cs'->a.bulk<=100000000->b.bulk<=100000000->
    Calls Tryz.prog 20 #[.agg cs.toArray,.agg cs'.toArray] w (Cb (a=b) w)
theorem Pw {B:Nat} {a w:World} (h:Below B a w) (n:Nat):Below B a (w.drewN n):=⟨h.os,h.tape,h.output,h.size,h.block⟩
theorem Ct (w:World) (o o':Obj):Below w.heap.size w ((w.alloc o).alloc o'):=(Aa w o).alloc (by simp) _
theorem Yb {W w1:World} (hb:Below W.heap.size W w1):(∀b o,b<W.heap.size->w1.cell? ⟨b,o,none⟩=W.cell? ⟨b,o,none⟩)/\(∀b o,b<W.heap.size->w1.frozen? ⟨b,o,none⟩=W.frozen? ⟨b,o,none⟩):=
 ⟨fun b o h=>hb.cell (p:=⟨b,o,none⟩) h,fun b o h=>hb.frozen (p:=⟨b,o,none⟩) h⟩
theorem Ahz (k k':Int) (b b':Bool) (n n':Int) (t t':ByteArray) (la oa la' oa':Option Addr) (ln lc on oc ln' lc' on' oc':Nat) (w:World) (p:Prop) (hp: ¬p) (h:k≠k'\/b≠b'\/n≠n'\/t≠t'\/ln≠ln'\/on≠on'):
 Calls Tryz.prog 20 #[.agg #[.int .i64 k,.bool b,.int .i64 n,.string t,.slice la ln lc,.slice oa on oc],.agg #[.int .i64 k',.bool b',.int .i64 n',.string t',.slice la' ln' lc',.slice oa' on' oc']] w (Cb p w):=by
 by_cases hk:k=k';rotate_left
 . have e:(k != k')=true:=by simpa using hk
   clear h hk;go_enter Tryz.func20,Tryz.ntmps20;go_wp2;go_ret;exact Cb.no hp (Ct _ _ _)
 subst hk;by_cases hb:b=b';rotate_left
 . clear h
   cases b<;>cases b'<;>first|exact absurd rfl hb|(clear hb;go_enter Tryz.func20,Tryz.ntmps20;go_wp2;go_ret;exact Cb.no hp (Ct _ _ _))
 subst hb;by_cases hn:n=n';rotate_left
 . have e:(n != n')=true:=by simpa using hn
   clear h hn;go_enter Tryz.func20,Tryz.ntmps20;go_wp2;go_ret;exact Cb.no hp (Ct _ _ _)
 subst hn;by_cases ht:t=t';rotate_left
 . have e:(t.toList != t'.toList)=true:=by simp only[bne_iff_ne];exact fun e=>ht (by rw[Lib.toList_data,Lib.toList_data]at e;exact ByteArray.ext (Array.ext' e))
   have e2:(t.toList==t'.toList)=false:=by simpa using e
   have e3: ¬t.toList=t'.toList:=by simpa using e
   clear h ht;go_enter Tryz.func20,Tryz.ntmps20;go_wp2;go_ret;exact Cb.no hp (Ct _ _ _)
 subst ht;by_cases hln:ln=ln';rotate_left
 . have e:((ln:Int) != (ln':Int))=true:=by simp;omega
   clear h hln;go_enter Tryz.func20,Tryz.ntmps20;go_wp2;go_ret;exact Cb.no hp (Ct _ _ _)
 subst hln;by_cases hon:on=on';rotate_left
 . have e:((on:Int) != (on':Int))=true:=by simp;omega
   clear h hon;go_enter Tryz.func20,Tryz.ntmps20;go_wp2;go_ret;exact Cb.no hp (Ct _ _ _)
 subst hon;simp at h
def EA (w:World) (b1 b2:Array Value) (wr:World):Prop:=Below w.heap.size w wr/\Aj wr w.heap.size 42 b1/\Aj wr (w.heap.size+1) 42 b2
theorem EA.step {w:World} {b1 b2:Array Value} {wr w4:World} (h:EA w b1 b2 wr) (hb:Below wr.heap.size wr w4):EA w b1 b2 w4:=⟨h.1.trans (hb.mono h.1.size),h.2.1.below hb h.2.1.lt,h.2.2.below hb h.2.2.lt⟩
theorem Og {α:Type} {l l':List α} {q:Nat} {x x':α} (h:l.take q=l'.take q) (hx:l[q]? =some x) (hx':l'[q]? =some x') (e:x=x'):l.take (q+1)=l'.take (q+1):=by
 rw[List.take_add_one,List.take_add_one,hx,hx',h,e]
theorem Su {α:Type} {l l':List α} {q:Nat} {x x':α} (hx:l[q]? =some x) (hx':l'[q]? =some x') (e:x≠x'):l≠l':=by
 rintro rfl;rw[hx]at hx';exact e (Option.some.inj hx')
theorem Ah0 (k:Int) (b:Bool) (n:Int) (t:ByteArray) (l l':List Val) (o o':List (ByteArray×Val)) (la oa la' oa':Option Addr) (lc oc lc' oc':Nat) (w:World) (IH: ∀v ∈ l,EqC v) (IHo: ∀m ∈ o,EqC m.2)
 (hln:l.length=l'.length) (hon:o.length=o'.length)
 (hl:l= []\/ ∃g off,la=some ⟨g,off,none⟩/\g<w.heap.size/\Ax w w.heap.size l g off) (hl':l'= []\/ ∃g off,la'=some ⟨g,off,none⟩/\g<w.heap.size/\Ax w w.heap.size l' g off)
 (ho:o= []\/ ∃g off,oa=some ⟨g,off,none⟩/\g<w.heap.size/\A4 w w.heap.size o g off) (ho':o'= []\/ ∃g off,oa'=some ⟨g,off,none⟩/\g<w.heap.size/\A4 w w.heap.size o' g off)
 (hbl:Ba l<=100000000) (hbl':Ba l'<=100000000) (hbo:Au o<=100000000) (hbo':Au o'<=100000000):
 Calls Tryz.prog 20 #[.agg #[.int .i64 k,.bool b,.int .i64 n,.string t,.slice la l.length lc,.slice oa o.length oc],.agg #[.int .i64 k,.bool b,.int .i64 n,.string t,.slice la' l.length lc',.slice oa' o.length oc']] w (Cb (l=l'/\o=o') w):=by
 have hlb:=Dx l;have hob:=C3 o;have hA0:EA w #[.int .i64 k,.bool b,.int .i64 n,.string t,.slice la l.length lc,.slice oa o.length oc] #[.int .i64 k,.bool b,.int .i64 n,.string t,.slice la' l.length lc',.slice oa' o.length oc'] ((w.alloc (.cells #[.int .i64 k,.bool b,.int .i64 n,.string t,.slice la l.length lc,.slice oa o.length oc] 42)).alloc (.cells #[.int .i64 k,.bool b,.int .i64 n,.string t,.slice la' l.length lc',.slice oa' o.length oc'] 42)):=by
  refine⟨Ct _ _ _,(Aj.new w 42 #[.int .i64 k,.bool b,.int .i64 n,.string t,.slice la l.length lc,.slice oa o.length oc]).alloc _, ?_⟩;have:=Aj.new (w.alloc (.cells #[.int .i64 k,.bool b,.int .i64 n,.string t,.slice la l.length lc,.slice oa o.length oc] 42)) 42 #[.int .i64 k,.bool b,.int .i64 n,.string t,.slice la' l.length lc',.slice oa' o.length oc'];simpa using this
 have H00:=qz (show l.take 0=l'.take 0 from by simp);obtain⟨HIH,HIHo,HA0,Hln,Hon,Hl,Hl',Ho,Ho'⟩:=hid9 IH IHo hA0 hln hon hl hl' ho ho';clear hA0 hln hon hl hl' ho ho';clear IH IHo;go_enter Tryz.func20,Tryz.ntmps20;go_wp2_with (fail);obtain⟨w0,hw0⟩: ∃w0,(w.alloc (.cells #[.int .i64 k,.bool b,.int .i64 n,.string t,.slice la l.length lc,.slice oa o.length oc] 42)).alloc (.cells #[.int .i64 k,.bool b,.int .i64 n,.string t,.slice la' l.length lc',.slice oa' o.length oc'] 42)=w0:=⟨_,rfl⟩;rw[hw0]at HA0 ⊢;clear hw0;go_loopw [5] (fun i wr=> ∃q:Nat,i=.int .i64 q/\q<=l.length/\Hid (l.take q=l'.take q)/\Hid (EA w #[.int .i64 k,.bool b,.int .i64 n,.string t,.slice la l.length lc,.slice oa o.length oc] #[.int .i64 k,.bool b,.int .i64 n,.string t,.slice la' l.length lc',.slice oa' o.length oc'] wr)) (fun i _=>l.length - (intOf i).toNat)
 case atStart=>exact⟨0,rfl,Nat.zero_le _,H00,HA0⟩
 case round=>
  obtain⟨q,rfl,hq,htk,hea⟩:=hrel;clear H00 HA0;have m1:=hea.out.2.1.cell 4;have m2:=hea.out.2.2.cell 4;by_cases hlt:q<l.length
  . have hlt':q<l'.length:=by have:=Hln.out;omega
    obtain⟨g,off,rfl,hg,hLL⟩: ∃g off,la=some ⟨g,off,none⟩/\g<w.heap.size/\Ax w w.heap.size l g off:=Hl.out.resolve_left (by intro e;rw[e]at hlt;simp at hlt);obtain⟨g',off',rfl,hg',hLL'⟩: ∃g off,la'=some ⟨g,off,none⟩/\g<w.heap.size/\Ax w w.heap.size l' g off:=Hl'.out.resolve_left (by intro e;rw[e]at hlt';simp at hlt');obtain⟨x,hx⟩: ∃v,l[q]? =some v:=⟨_,List.getElem?_eq_getElem hlt⟩;obtain⟨x',hx'⟩: ∃v,l'[q]? =some v:=⟨_,List.getElem?_eq_getElem hlt'⟩;have IHx:=HIH.out _ (List.mem_of_getElem? hx);have hbv:=Ew (List.mem_of_getElem? hx);have hbv':=Ew (List.mem_of_getElem? hx');have:=trivial;have hbw:=hea.out.1;have hz:=hbw.size;have hT:=fun e=>Og htk.out hx hx' e;have hN:=fun e=>Su hx hx' e;obtain⟨xv,hxv⟩: ∃xv,x=xv:=⟨_,rfl⟩;obtain⟨xv',hxv'⟩: ∃xv,x'=xv:=⟨_,rfl⟩;obtain⟨k1,b1,n1,t1,l1,o1⟩:=x;obtain⟨k2,b2,n2,t2,l2,o2⟩:=x';obtain⟨la1,lc1,oa1,oc1,hv1,c0,c1,c2,c3,c4,c5⟩:=(hLL.below hg hbw).six hx;obtain⟨la2,lc2,oa2,oc2,hv2,d0,d1,d2,d3,d4,d5⟩:=(hLL'.below hg' hbw).six hx';have hC: ∀W,Below wr.heap.size wr W->Calls Tryz.prog 20 #[.agg #[.int .i64 k1,.bool b1,.int .i64 n1,.string t1,.slice la1 l1.length lc1,.slice oa1 o1.length oc1],.agg #[.int .i64 k2,.bool b2,.int .i64 n2,.string t2,.slice la2 l2.length lc2,.slice oa2 o2.length oc2]] W (Cb (xv=xv') W):=fun W hW=>by
     rw[<-hxv,<-hxv'];exact IHx _ _ _ W (Ac.more (Nat.le_trans hz hW.size) _ _ (hv1.below (hW.mono hz))) (Ac.more (Nat.le_trans hz hW.size) _ _ (hv2.below (hW.mono hz))) (by omega) (by omega)
    rw[hxv,hxv']at hT hN;have z1:g<wr.heap.size:=by omega
    have z2:g'<wr.heap.size:=by omega
    have z3:w.heap.size<wr.heap.size:=hea.out.2.1.lt;have z4:w.heap.size+1<wr.heap.size:=hea.out.2.2.lt;have z5:(q:Int)<(l.length:Int):=by omega
    obtain⟨HC,HT,HN⟩:=hid3 hC hT hN;clear hC hT hN;clear hbw hv1 hv2 hx hx' IHx hLL hLL' hxv hxv' htk;go_wp2_with (fail)
    go_region_held3 (fun W=>W.cell? ⟨w.heap.size,4,none⟩=some (.slice (some ⟨g,off,none⟩) l.length lc)/\W.cell? ⟨w.heap.size+1,4,none⟩=some (.slice (some ⟨g',off',none⟩) l.length lc')/\W.cell? ⟨g,off+q*6,none⟩=some (.int .i64 k1)/\W.cell? ⟨g,off+q*6+1,none⟩=some (.bool b1)/\W.cell? ⟨g,off+q*6+2,none⟩=some (.int .i64 n1)/\W.cell? ⟨g,off+q*6+3,none⟩=some (.string t1)/\W.cell? ⟨g,off+q*6+4,none⟩=some (.slice la1 l1.length lc1)/\W.cell? ⟨g,off+q*6+5,none⟩=some (.slice oa1 o1.length oc1)/\W.cell? ⟨g',off'+q*6,none⟩=some (.int .i64 k2)/\W.cell? ⟨g',off'+q*6+1,none⟩=some (.bool b2)/\W.cell? ⟨g',off'+q*6+2,none⟩=some (.int .i64 n2)/\W.cell? ⟨g',off'+q*6+3,none⟩=some (.string t2)/\W.cell? ⟨g',off'+q*6+4,none⟩=some (.slice la2 l2.length lc2)/\W.cell? ⟨g',off'+q*6+5,none⟩=some (.slice oa2 o2.length oc2)) (go_keep) (first|(go_at_call 20;refine(HC.out _ ?_).mono ?_;(exact(Below.drew (Below.refl _ _)));rintro e w4 ⟨B,rfl,hB,hb4⟩;have hbr:Below wr.heap.size wr w4:=((Below.drew (Below.refl _ _)).trans hb4);obtain⟨hc4,hf4⟩:=Yb hbr))
    all_goals
     have HE4:Hid (EA w #[.int .i64 k,.bool b,.int .i64 n,.string t,.slice (some ⟨g,off,none⟩) l.length lc,.slice oa o.length oc] #[.int .i64 k,.bool b,.int .i64 n,.string t,.slice (some ⟨g',off',none⟩) l.length lc',.slice oa' o.length oc'] w4):=hea.out.step hbr;clear hb4 hbr hc4 hf4 hea
     cases B with
     |true=>
      have HT':=qz (HT.out ((hB.1 rfl)));clear hB HT HN;go_wp2;go_roundw
      case rel=>exact⟨q+1,by go_num,by omega,HT',HE4⟩
      case measure=>simp only[intOf];omega
     |false=>
      have Hno:Hid (¬(l=l'/\o=o')):=fun h=>HN.out ((fun e=>by have:=hB.2 e;cases this)) h.1;clear hB HT HN;go_wp2;go_ret;exact Cb.no Hno.out HE4.out.1
  . obtain rfl:q=l.length:=by omega
    have hE:=htk.out;rw[List.take_length,Hln.out,List.take_length]at hE;have HE:=qz hE;clear hE;clear htk;have HE0:=HE;clear HE m1 m2;obtain⟨wo,hwo⟩: ∃wo:World,wo=wr:=⟨_,rfl⟩;subst hwo;have hb5:=hea.out.2.1.cell 5;have H01:=qz (show o.take 0=o'.take 0 from by simp);have m4:=hea.out.2.1.cell 4;go_wp2_with (fail);clear m4;go_loopw [6] (fun i wr=> ∃q:Nat,i=.int .i64 q/\q<=o.length/\Hid (o.take q=o'.take q)/\Hid (EA w #[.int .i64 k,.bool b,.int .i64 n,.string t,.slice la l.length lc,.slice oa o.length oc] #[.int .i64 k,.bool b,.int .i64 n,.string t,.slice la' l.length lc',.slice oa' o.length oc'] wr)) (fun i _=>o.length - (intOf i).toNat)
    case atStart=>exact⟨0,rfl,Nat.zero_le _,H01,hea⟩
    case round=>
     obtain⟨q,rfl,hq,htk,hea⟩:=hrel;clear H01;have m1:=hea.out.2.1.cell 5;have m2:=hea.out.2.2.cell 5;by_cases hlt:q<o.length
     . have hlt':q<o'.length:=by have:=Hon.out;omega
       obtain⟨g,off,rfl,hg,hLL⟩: ∃g off,oa=some ⟨g,off,none⟩/\g<w.heap.size/\A4 w w.heap.size o g off:=Ho.out.resolve_left (by intro e;rw[e]at hlt;simp at hlt);obtain⟨g',off',rfl,hg',hLL'⟩: ∃g off,oa'=some ⟨g,off,none⟩/\g<w.heap.size/\A4 w w.heap.size o' g off:=Ho'.out.resolve_left (by intro e;rw[e]at hlt';simp at hlt');obtain⟨⟨key,x⟩,hx⟩: ∃v,o[q]? =some v:=⟨_,List.getElem?_eq_getElem hlt⟩;obtain⟨⟨key',x'⟩,hx'⟩: ∃v,o'[q]? =some v:=⟨_,List.getElem?_eq_getElem hlt'⟩;have IHx:=HIHo.out _ (List.mem_of_getElem? hx);have hbv:=Ef (List.mem_of_getElem? hx);have hbv':=Ef (List.mem_of_getElem? hx');simp only at IHx hbv hbv';have hbw:=hea.out.1;have hz:=hbw.size;have hT:=fun e=>Og htk.out hx hx' e;have hN:=fun e=>Su hx hx' e;obtain⟨xv,hxv⟩: ∃xv,x=xv:=⟨_,rfl⟩;obtain⟨xv',hxv'⟩: ∃xv,x'=xv:=⟨_,rfl⟩;obtain⟨k1,b1,n1,t1,l1,o1⟩:=x;obtain⟨k2,b2,n2,t2,l2,o2⟩:=x';obtain⟨la1,lc1,oa1,oc1,hv1,c0,c1,c2,c3,c4,c5,c6⟩:=(hLL.below hg hbw).seven hx;obtain⟨la2,lc2,oa2,oc2,hv2,d0,d1,d2,d3,d4,d5,d6⟩:=(hLL'.below hg' hbw).seven hx';have hC: ∀W,Below wr.heap.size wr W->Calls Tryz.prog 20 #[.agg #[.int .i64 k1,.bool b1,.int .i64 n1,.string t1,.slice la1 l1.length lc1,.slice oa1 o1.length oc1],.agg #[.int .i64 k2,.bool b2,.int .i64 n2,.string t2,.slice la2 l2.length lc2,.slice oa2 o2.length oc2]] W (Cb (xv=xv') W):=fun W hW=>by
        rw[<-hxv,<-hxv'];exact IHx _ _ _ W (Ac.more (Nat.le_trans hz hW.size) _ _ (hv1.below (hW.mono hz))) (Ac.more (Nat.le_trans hz hW.size) _ _ (hv2.below (hW.mono hz))) (by omega) (by omega)
       rw[hxv,hxv']at hT hN;have z1:g<wr.heap.size:=by omega
       have z2:g'<wr.heap.size:=by omega
       have z3:w.heap.size<wr.heap.size:=hea.out.2.1.lt;have z4:w.heap.size+1<wr.heap.size:=hea.out.2.2.lt;have z5:(q:Int)<(o.length:Int):=by omega
       obtain⟨HC,HT,HN⟩:=hid3 hC hT hN;clear hC hT hN;clear hbw hv1 hv2 hx hx' IHx hLL hLL' hxv hxv' htk;by_cases hk:key.toList=key'.toList
       . have hkk:=I0 hk;subst hkk;have e1:(key.toList != key.toList)=false:=by simp
         clear hk;go_wp2_with (fail)
         go_region_held3 (fun W=>W.cell? ⟨w.heap.size,5,none⟩=some (.slice (some ⟨g,off,none⟩) o.length oc)/\W.cell? ⟨w.heap.size+1,5,none⟩=some (.slice (some ⟨g',off',none⟩) o.length oc')/\W.cell? ⟨g,off+q*7,none⟩=some (.string key)/\W.cell? ⟨g,off+q*7+1,none⟩=some (.int .i64 k1)/\W.cell? ⟨g,off+q*7+2,none⟩=some (.bool b1)/\W.cell? ⟨g,off+q*7+3,none⟩=some (.int .i64 n1)/\W.cell? ⟨g,off+q*7+4,none⟩=some (.string t1)/\W.cell? ⟨g,off+q*7+5,none⟩=some (.slice la1 l1.length lc1)/\W.cell? ⟨g,off+q*7+6,none⟩=some (.slice oa1 o1.length oc1)/\W.cell? ⟨g',off'+q*7,none⟩=some (.string key)/\W.cell? ⟨g',off'+q*7+1,none⟩=some (.int .i64 k2)/\W.cell? ⟨g',off'+q*7+2,none⟩=some (.bool b2)/\W.cell? ⟨g',off'+q*7+3,none⟩=some (.int .i64 n2)/\W.cell? ⟨g',off'+q*7+4,none⟩=some (.string t2)/\W.cell? ⟨g',off'+q*7+5,none⟩=some (.slice la2 l2.length lc2)/\W.cell? ⟨g',off'+q*7+6,none⟩=some (.slice oa2 o2.length oc2)) (go_keep) (first|(go_at_call 20;refine(HC.out _ ?_).mono ?_;(exact(Below.drew (Below.refl _ _)));rintro e w4 ⟨B,rfl,hB,hb4⟩;have hbr:Below wr.heap.size wr w4:=((Below.drew (Below.refl _ _)).trans hb4);obtain⟨hc4,hf4⟩:=Yb hbr))
         all_goals
          have HE4:Hid (EA w #[.int .i64 k,.bool b,.int .i64 n,.string t,.slice la l.length lc,.slice (some ⟨g,off,none⟩) o.length oc] #[.int .i64 k,.bool b,.int .i64 n,.string t,.slice la' l.length lc',.slice (some ⟨g',off',none⟩) o.length oc'] w4):=hea.out.step hbr;clear hb4 hbr hc4 hf4 hea
          cases B with
          |true=>
           have HT':=qz (HT.out (by rw[hB.1 rfl]));clear hB HT HN;go_wp2;go_roundw
           case rel=>exact⟨q+1,by go_num,by omega,HT',HE4⟩
           case measure=>simp only[intOf];omega
          |false=>
           have Hno:Hid (¬(l=l'/\o=o')):=fun h=>HN.out (fun e=>by have:=hB.2 (congrArg Prod.snd e);cases this) h.2;clear hB HT HN;go_wp2;go_ret;exact Cb.no Hno.out HE4.out.1
       . have e1:(key.toList != key'.toList)=true:=by simpa using hk
         have e2:(key.toList==key'.toList)=false:=by simpa using hk
         have Hno:Hid (¬(l=l'/\o=o')):=fun h=>HN.out (fun e=>hk (by have e5:=congrArg Prod.fst e;simp only at e5;rw[e5])) h.2;have Hk:=qz hk;clear hk;clear HC HT HN;go_wp2_with (fail);go_quiet (fail);go_wp2;go_ret;exact Cb.no Hno.out (by first|exact Pw hea.out.1 _|exact Pw (Pw hea.out.1 _) _)
     . obtain rfl:q=o.length:=by omega
       have hE:=htk.out;rw[List.take_length,Hon.out,List.take_length]at hE;have HE:=qz hE;clear hE;clear htk;go_wp2;go_ret;exact Cb.yes ⟨HE0.out,HE.out⟩ hea.out.1
theorem Ni: ∀a,EqC a:=by
 refine Val.ind ?_;intro k b n t l o hl ho b' cs cs' w hV hV' hb hb';obtain⟨k',b',n',t',l',o'⟩:=b';simp only[Ac]at hV hV';obtain⟨la,lc,oa,oc,rfl,hla,hoa⟩:=hV;obtain⟨la',lc',oa',oc',rfl,hla',hoa'⟩:=hV';simp only[Val.bulk]at hb hb';by_cases hd:k≠k'\/b≠b'\/n≠n'\/t≠t'\/l.length≠l'.length\/o.length≠o'.length
 . exact Ahz k k' b b' n n' t t' la oa la' oa' l.length lc o.length oc l'.length lc' o'.length oc' w _ (by rintro⟨⟩;simp at hd) hd
 . simp only[not_or,Decidable.not_not]at hd;obtain⟨rfl,rfl,rfl,rfl,e1,e2⟩:=hd;have:=Ah0 k b n t l l' o o' la oa la' oa' lc oc lc' oc' w hl ho e1 e2 hla hla' hoa hoa' (by omega) (by omega) (by omega) (by omega);rw[e1,e2]at this;refine(show Fb k b n t la l.length lc oa o.length oc=_ by rw[e1,e2])▸this.mono ?_;rintro e w' ⟨B,rfl,hB,hb⟩;exact⟨B,rfl,by rw[hB];simp,hb⟩
end Go.Proofs.YtobmaegpfbheoaaGreatDoor
