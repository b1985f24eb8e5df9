/- Parts: A row of members sorted by their keys, by slices.SortFunc. Condition: no key twice. -/
import Derived.Test.YtkmcjfkokoidcaaGreatDoorZFbShelfS
import Derived.Shelf.SlSortCmp.WholeK
import Derived.Test.YtkmcjfkokoidcaaGreatDoorKFb19
import Derived.Test.YtkmcjfkokoidcaaGreatDoorKFb20
set_option maxHeartbeats 20000000
set_option maxRecDepth 100000
namespace Go.Proofs.YtkmcjfkokoidcaaGreatDoor
open Go Go.RowKit
theorem Aby {c:UInt8} (h:c.toNat<128) (l:List UInt8):Lib.decodeL (c::l)=(c.toNat,1):=by
 rw[Dz];unfold Lib.decodeN;rw[if_pos (by simpa using h)];simp
theorem Pu {c:UInt8} {l:List UInt8} (hd: ¬((Lib.decodeL (c::l)).1=65533/\(Lib.decodeL (c::l)).2=1)):(32<=(Lib.decodeL (c::l)).1/\(Lib.decodeL (c::l)).1≠34/\(Lib.decodeL (c::l)).1≠92) ↔ (¬c.toNat<32/\c≠34/\c≠92):=by
 by_cases h:c.toNat<128
 . rw[Aby h];have e34:c=34 ↔ c.toNat=34:=⟨fun e=>by rw[e];rfl,fun e=>UInt8.toNat_inj.1 e⟩;have e92:c=92 ↔ c.toNat=92:=⟨fun e=>by rw[e];rfl,fun e=>UInt8.toNat_inj.1 e⟩;simp only[ne_eq,e34,e92];omega
 . have hr:128<=(Lib.decodeL (c::l)).1:=by
    have he:=Lib.encode_decode (c::l) (by simp) hd;have hs:=Ma (l:=c::l) (by simp) hd;have hw:=Lib.decodeL_width (c::l);have hc:c ∈ Lib.encodeRune ((Lib.decodeL (c::l)).1:Int):=by
     rw[he];obtain⟨n,hn⟩: ∃n,(Lib.decodeL (c::l)).2=n+1:=⟨(Lib.decodeL (c::l)).2 - 1,by omega⟩;rw[hn];simp
    have:=M9 hs c hc;omega
   have n34:c≠34:=by rintro rfl;exact h (by decide)
   have n92:c≠92:=by rintro rfl;exact h (by decide)
   exact⟨fun _=>⟨by omega,n34,n92⟩,fun _=>⟨by omega,by omega,by omega⟩⟩
theorem Zb {s:List UInt8} {i:Nat} (h:i<s.length): ∃c,s[i]? =some c/\s.drop i=c::s.drop (i+1):=by
 refine⟨s[i],List.getElem?_eq_getElem h,List.drop_eq_getElem_cons h⟩
theorem Tq: ∀(n f:Nat) (s:List UInt8) (i:Nat) (out:List UInt8),i<=s.length->s.length - i<f->
 ∃f',s.length - (i+D7 n (s.drop i))<f'/\E6 f s i out=E6 f' s (i+D7 n (s.drop i)) (out++(s.drop i).take (D7 n (s.drop i)))
 |0,f,s,i,out,hi,hf=>⟨f,by simpa[D7]using hf,by simp[D7]⟩
 |n+1,f,s,i,out,hi,hf=>by
  by_cases hlt:i<s.length;rotate_left
  . have e:s.drop i= []:=List.drop_eq_nil_of_le (by omega);refine⟨f, ?_, ?_⟩<;>simp[D7,e]
    omega
  obtain⟨c,hc,hd⟩:=Zb hlt;have hne:s.drop i≠ []:=by rw[hd];simp
  simp only[D7];rw[if_neg hne];by_cases h2:(Lib.decodeL (s.drop i)).1=65533/\(Lib.decodeL (s.drop i)).2=1
  . rw[if_pos h2];exact⟨f,by simpa using hf,by simp⟩
  rw[if_neg h2];by_cases h3:32<=(Lib.decodeL (s.drop i)).1/\(Lib.decodeL (s.drop i)).1≠34/\(Lib.decodeL (s.drop i)).1≠92;rotate_left
  . rw[if_neg h3];exact⟨f,by simpa using hf,by simp⟩
  rw[if_pos h3];have hb:=h3;rw[hd]at hb h2;have hb':=(Pu h2).1 hb;rw[<-hd]at h2;obtain⟨f,rfl⟩: ∃g,f=g+1:=⟨f - 1,by omega⟩;have hw:=Lib.decodeL_width (s.drop i);have hle:=Zc hlt;have e1:E6 (f+1) s i out=E6 f s (i+(Lib.decodeL (s.drop i)).2) (out++(s.drop i).take (Lib.decodeL (s.drop i)).2):=by
   conv=>lhs;unfold E6
   rw[hc];simp only;rw[if_neg hb'.2.1,if_neg hb'.1,if_neg hb'.2.2,if_neg h2]
  obtain⟨f',h4,h5⟩:=Tq n f s (i+(Lib.decodeL (s.drop i)).2) (out++(s.drop i).take (Lib.decodeL (s.drop i)).2) hle (by omega);rw[<-List.drop_drop]at h4 h5;refine⟨f',by rw[<-Nat.add_assoc];exact h4, ?_⟩;rw[e1,h5,<-Nat.add_assoc,List.append_assoc,List.take_add]
theorem Z8 {n f:Nat} {s:List UInt8} {i:Nat} {out:List UInt8} {c:UInt8} (hc:s[i]? =some c) (h34:c≠34) (h92:c≠92) (hp:D7 (n+1) (s.drop i)=0):E6 (f+1) s i out=.bad (if c.toNat<32 then 4 else 3) i:=by
 have hd:=D0 hc;have hne:s.drop i≠ []:=by rw[hd];simp
 simp only[D7]at hp;rw[if_neg hne]at hp;unfold E6;rw[hc];simp only;rw[if_neg h34];by_cases h32:c.toNat<32
 . rw[if_pos h32,if_pos h32]
 rw[if_neg h32,if_neg h92,if_neg h32];by_cases h2:(Lib.decodeL (s.drop i)).1=65533/\(Lib.decodeL (s.drop i)).2=1
 . rw[if_pos h2]
 rw[if_neg h2]at hp;have h2':=h2;rw[hd]at h2';have h3:=(Pu h2').2 ⟨h32,h34,h92⟩;rw[<-hd]at h3;rw[if_pos h3]at hp;have:=Lib.decodeL_width (s.drop i);omega
theorem Ad9 {l:List UInt8} {e:Int} {q:Nat} (h:Ex l=.bad e q):e=3\/e=4:=by
 unfold Ex E4 Qd at h
 repeat' split at h
 all_goals first|(simp only[Rd.bad.injEq]at h;omega)|cases h
def Ox (r:Rd (List UInt8)):Value:=match r with
 | .ok a q=> .tuple #[.string ⟨a.toArray⟩,.int .i64 (q:Nat),.int .i64 0]
 | .bad e q=> .tuple #[.string ⟨#[]⟩,.int .i64 (q:Nat),.int .i64 e]
theorem Se {B g:Nat} {bs:List UInt8} {w:World} (h:BB w B g bs):Calls Tryz.prog 75 #[.pointer (some ⟨g,0,none⟩)] w fun e w'=>e=.returned (.string ⟨bs.toArray⟩)/\Below B w w':=by
 obtain⟨p,v,hB,hb,ht,_,h0,v',h1,hown⟩:=h;simp only[Nat.zero_add]at h1;have hv:v'=v:=by simpa using h1.symm
 subst hv;have hlt:g<w.heap.size:=(Array.getElem?_eq_some_iff.1 hb).1;refine Tryz.Builder_String_any B g bs w ?_ (by omega);have hne:=Lib.ownBlock_ne hown hb ht;have hat: ∀p',p=p'->Lib.BuilderAt 133 5 B g p' (Lib.byteCells bs) w:=fun p' e=>by
  subst e;exact⟨hB,v',hb,by have:=hown;simpa[Lib.byteCells]using this,hne⟩
 rcases h0 with h0|h0
 . exact .inl (hat _ (by simpa using h0))
 . exact .inr (hat _ (by simpa using h0))
def Agz (W:World) (b:Nat) (m:Option Nat):Prop:= ∀mb,m=some mb->b<mb/\W.heap[mb]? =some (.map (Gv C9 0).toArray C9.length)
def UI (s:ByteArray) (w:World) (RES:Rd (List UInt8)) (i:Nat) (m:Option Nat) (wr:World):Prop:=
 ∃out f,Below w.heap.size w wr/\BB wr w.heap.size w.heap.size out/\Agz wr w.heap.size m/\E6 f s.data.toList i out=RES/\s.size - i<f/\out.length<=i
theorem Wy {s:ByteArray} (i:Nat):(s.extract i s.size).data.toList=s.data.toList.drop i:=by
 rw[Lib.extract_data];exact List.take_of_length_le (by rw[List.length_drop,Ab];omega)
theorem Adb (s:ByteArray) (k:Nat) (w:World) (hT:B3 w) (hs:s.size<=1000000000) (hk:k<=s.size):
 Calls Tryz.prog 248 #[.string s,.int .i64 k] w fun e w'=>e=.returned (Ox (Cv s.data.toList k))/\Below w.heap.size w w':=by
 have hlen:=Ab s;have n0: ¬((k:Int)<0):=by omega
 have n1: ¬((s.size:Int)<(k:Int)):=by omega
 by_cases hlt:k<s.size;rotate_left
 . obtain rfl:k=s.size:=by omega
   have e:Cv s.data.toList s.size=.bad 4 s.size:=by unfold Cv;rw[if_neg (by rw[List.getElem?_eq_none (by omega)];simp)]
   rw[e];simp only[Ox];clear e hlen;have HT:=qz hT;clear hT n1 hlt;go_enter Tryz.func248,Tryz.ntmps248;go_wp2
   go_step3
   go_wp2;rw[Exit.noGoto_ret];exact bodyPost_ret (Am rfl _ _ _) rfl ⟨rfl,Below.refl _ _⟩
 obtain⟨c,hc⟩: ∃c,s[k]=c:=⟨_,rfl⟩;have hg:s.data.toList[k]? =some c:=by rw[A9 s hlt,hc]
 have hcl:=Be c;have ne: ∀(c:UInt8) (n:Nat),n<256->c≠UInt8.ofNat n->((c.toNat:Int)==(n:Int))=false:=fun c n hn h=>by rw[Gg hn];simpa using h
 have e1:((k:Int)==(s.size:Int))=false:=by rw[beq_eq_false_iff_ne];omega
 by_cases h34:c=34;rotate_left
 . have e:Cv s.data.toList k=.bad 4 k:=by unfold Cv;rw[if_neg (by rw[hg];simpa using h34)]
   rw[e];have e2:=ne c 34 (by decide) h34;simp only[Ox];clear e hlen hg ne h34;have HT:=qz hT;clear hT;go_enter Tryz.func248,Tryz.ntmps248;go_wp2
   go_step3
   go_wp2;rw[Exit.noGoto_ret];exact bodyPost_ret (Am rfl _ _ _) rfl ⟨rfl,Below.refl _ _⟩
 subst h34;obtain⟨RES,hRES⟩: ∃R,Cv s.data.toList k=R:=⟨_,rfl⟩;rw[hRES];have hF:E6 (s.data.toList.length - k) s.data.toList (k+1) []=RES:=by
  rw[<-hRES];unfold Cv;rw[if_pos hg]
 have hB0:BB (w.alloc (.cells #[.pointer none,.slice none 0 0] 133)) w.heap.size w.heap.size []:=
  ⟨_,_,Nat.le_refl _,heap_alloc_new _ _,by decide,by simp,.inl rfl,.slice none 0 0,rfl,World.ownsRow_nil _ _ _ _⟩
 have H0:Hid (UI s w RES (k+1) none (w.alloc (.cells #[.pointer none,.slice none 0 0] 133))):=⟨[],_,Aa _ _,hB0,fun mb e=>(by cases e),hF,by omega,by simp⟩;clear hRES hF hB0 hg hlen;have d0:decide ((k:Int)<0)=false:=decide_eq_false (by omega);have d1:decide (s.size<k)=false:=decide_eq_false (by omega);clear n0 n1;obtain⟨HT,Ne⟩:=hid2 hT ne;clear hT ne;go_enter Tryz.func248,Tryz.ntmps248;go_wp2
 go_step3
 go_wp2
 go_step3
 go_wp2;go_loopw [7,9] (fun m i wr=> ∃(j:Nat) (mm:Option Nat),m=.map mm/\i=.int .i64 j/\j<=s.size/\Hid (UI s w RES j mm wr)) (fun _ i _=>s.size - (intOf i).toNat)
 case atStart=>exact⟨k+1,none,rfl,by go_num,by omega,H0⟩
 case round=>
  obtain⟨j,mm,rfl,rfl,hj,hI⟩:=hrel;clear H0 e1 hc d0 d1;clear hlt hk;by_cases hlt:j<s.size
  . obtain⟨c,hc⟩: ∃c,s[j]=c:=⟨_,rfl⟩;have hg:s.data.toList[j]? =some c:=by rw[A9 s hlt,hc]
    have hcl:=Be c;have e1:((j:Int)==(s.size:Int))=false:=by rw[beq_eq_false_iff_ne];omega
    by_cases h34:c=34
    . subst h34;obtain⟨out,f,h1,h2,h3,h4,h5,h6⟩:=hI.out;obtain⟨f,rfl⟩: ∃g,f=g+1:=⟨f - 1,by omega⟩;have hR:RES=.ok out (j+1):=by
       rw[<-h4];unfold E6;rw[hg];simp
      have HS:=qz (Se h2);obtain⟨H1,H2,H3,H4,HR⟩:=hid5 h1 h2 h3 h4 hR;clear h1 h2 h3 h4 hR;clear hI hg;go_wp2_with (fail);(with_reducible refine(HS.out).mono ?_);rintro e w2 ⟨rfl,hb2⟩;have hB:=qz (H1.out.trans hb2);clear hb2;go_wp2
      try rw[Exit.noGoto_ret]
      exact bodyPost_ret (Am rfl _ _ _) rfl ⟨by rw[HR.out];rfl,hB.out⟩
    have e34:=Ne.out c 34 (by decide) h34;by_cases h92:c=92
    . subst h92;obtain⟨out,f,h1,h2,h3,h4,h5,h6⟩:=hI.out;obtain⟨f,rfl⟩: ∃g,f=g+1:=⟨f - 1,by omega⟩;have hR:RES=match Ex (s.data.toList.drop j)with
       | .bad e _=> .bad e j
       | .ok r n=>E6 f s.data.toList (j+n) (out++Lib.encodeRune (r:Int)):=by
       rw[<-h4]
       conv=>lhs;unfold E6
       rw[hg];simp only;rw[if_neg (by decide),if_neg (by decide),if_pos trivial];rfl
      have hext:=Wy (s:=s) j;have hes:(s.extract j s.size).size<=1000000000:=by rw[ByteArray.size_extract];omega
      have hE:=fun(mb:Nat) (W:World) hm=>Un (s.extract j s.size) mb W hes hm;rw[hext]at hE;have hok: ∀r n,Ex (s.data.toList.drop j)=.ok r n->r<=1114111/\2<=n/\j+n<=s.size/\(Lib.encodeRune (r:Int)).length<=n:=fun r n e=>by
       have a1:=Lc e;have a2:=Re e;rw[List.length_drop,Ab]at a1;exact⟨a1.1,a1.2.2.1,by omega,a2⟩
      have hbad: ∀e q,Ex (s.data.toList.drop j)=.bad e q->e=3\/e=4:=fun e q h=>Ad9 h;clear hext hes hg h34;generalize Ex (s.data.toList.drop j)=X at hE hR hok hbad;have hnil:=fun(wx:World) (m0:Option Nat)=>run_eql_map_nil (P:=Tryz.prog) wx 296 _ _ m0 Tryz.underlying296;have key: ∀(W:World) (mb:Nat),Below w.heap.size w W->BB W w.heap.size w.heap.size out->w.heap.size<mb->W.heap[mb]? =some (.map (Gv C9 0).toArray C9.length)-> ∀r n,X=.ok r n->
       Calls Tryz.prog 288 #[.string (s.extract j s.size),.map (some mb)] W (fun e W'=>e=.returned (Qb X)/\W=W')/\
       (Calls Tryz.prog 244 #[.pointer (some ⟨w.heap.size,0,none⟩),.int .i32 r] W fun e W'=>(∃k:Int,e=.returned (.tuple #[.int .i64 k,.nilIface]))/\UI s w RES (j+n) (some mb) W'):=by
       intro W mb a1 a2 a3 a4 r n e;refine⟨hE mb W a4, ?_⟩;obtain⟨b1,b2,b3,b4⟩:=hok r n e;refine(G6 (r:Int) (by omega) (by omega) a2 (by omega)).mono ?_;rintro e' W' ⟨hk',hB',hb',hkp⟩;refine⟨hk',out++Lib.encodeRune (r:Int),f,a1.trans hb',hB',fun mb' e2=> ?_, ?_,by omega,by rw[List.length_append];omega⟩
       . cases e2
         exact⟨a3,hkp _ _ a4 (by simp;omega) (fun c fz e=>by cases e)⟩
       . rw[hR,e]
      have hU: ∀W,Calls Tryz.prog 287 #[] W fun e w'=>e=.returned (.map (some W.heap.size))/\W.alloc (.map (Gv C9 0).toArray C9.length)=w':=fun W=>Vi W;have hz1:=h1.size
      cases X with
      |bad e0 q0=>
       simp only[Qb]at hE hR;have hn0:(e0 != 0)=true:=by
        rcases hbad e0 q0 rfl with rfl|rfl<;>decide
       rcases mm with _|mb
       . have hm:=heap_alloc_new wr (.map (Gv C9 0).toArray C9.length);have HE':=qz (hE wr.heap.size _ hm);have Hbw:=qz (h1.alloc hz1 (.map (Gv C9 0).toArray C9.length));obtain⟨HU,H1,H2,H3,H4,HR,Key,Hok,Hm,Hbad⟩:=hid10 hU h1 h2 h3 h4 hR key hok hm hbad;clear hU h1 h2 h3 h4 hR key hok hm hbad;clear hI hE;go_wp2_with (fail);(with_reducible refine(HU.out _).mono ?_);rintro e w2 ⟨rfl,rfl⟩;go_wp2_with (fail);(with_reducible refine(HE'.out).mono ?_);rintro e w2 ⟨rfl,rfl⟩;go_wp2
         try rw[Exit.noGoto_ret]
         exact bodyPost_ret (Am rfl _ _ _) rfl ⟨by rw[HR.out];rfl,Hbw.out⟩
       . have hE':=hE mb _ (h3 mb rfl).2;obtain⟨HE',HU,H1,H2,H3,H4,HR,Key,Hok,Hbad⟩:=hid10 hE' hU h1 h2 h3 h4 hR key hok hbad;clear hE' hU h1 h2 h3 h4 hR key hok hbad;clear hI hE;go_wp2_with (fail);(with_reducible refine(HE'.out).mono ?_);rintro e w2 ⟨rfl,rfl⟩;go_wp2
         try rw[Exit.noGoto_ret]
         exact bodyPost_ret (Am rfl _ _ _) rfl ⟨by rw[HR.out];rfl,H1.out⟩
      |ok r n=>
       obtain⟨b1,b2,b3,b4⟩:=hok r n rfl;rcases mm with _|mb
       . obtain⟨k1,k2⟩:=key (wr.alloc (.map (Gv C9 0).toArray C9.length)) wr.heap.size (h1.alloc hz1 _) (h2.below (Aa _ _)) h2.lt (heap_alloc_new wr _) r n rfl;simp only[Qb]at k1;obtain⟨HU,H1,H2,H3,H4,HR,Key,Hok,K1,K2,Hbad⟩:=hid11 hU h1 h2 h3 h4 hR key hok k1 k2 hbad;clear hU h1 h2 h3 h4 hR key hok k1 k2 hbad;clear hI hE;go_wp2_with (fail);(with_reducible refine(HU.out _).mono ?_);rintro e w2 ⟨rfl,rfl⟩;go_wp2_with (fail);(with_reducible refine(K1.out).mono ?_);rintro e w2 ⟨rfl,rfl⟩;go_wp2_with (fail);(with_reducible refine(K2.out).mono ?_);rintro e w2 ⟨⟨z,rfl⟩,hu2⟩;have HU2:=qz hu2;clear hu2;go_wp2;go_roundw
         case rel=>exact⟨j+n,_,rfl,by go_num,by omega,HU2⟩
         case measure=>simp[intOf];omega
       . obtain⟨k1,k2⟩:=key wr mb h1 h2 (h3 mb rfl).1 (h3 mb rfl).2 r n rfl;simp only[Qb]at k1;obtain⟨HU,H1,H2,H3,H4,HR,Key,Hok,K1,K2,Hbad⟩:=hid11 hU h1 h2 h3 h4 hR key hok k1 k2 hbad;clear hU h1 h2 h3 h4 hR key hok k1 k2 hbad;clear hI hE;go_wp2_with (fail);(with_reducible refine(K1.out).mono ?_);rintro e w2 ⟨rfl,rfl⟩;go_wp2_with (fail);(with_reducible refine(K2.out).mono ?_);rintro e w2 ⟨⟨z,rfl⟩,hu2⟩;have HU2:=qz hu2;clear hu2;go_wp2;go_roundw
         case rel=>exact⟨j+n,_,rfl,by go_num,by omega,HU2⟩
         case measure=>simp[intOf];omega
    ·
     have e92:=Ne.out c 92 (by decide) h92;obtain⟨out,f,h1,h2,h3,h4,h5,h6⟩:=hI.out;have hext:=Wy (s:=s) j;have hsz:(s.extract j s.size).size=s.size - j:=by rw[ByteArray.size_extract];omega
     have hP:=Xw (s.extract j s.size) wr (HT.out.below h1) (by omega);rw[hext,hsz]at hP;obtain⟨nn,hnn⟩: ∃nn,s.size - j=nn+1:=⟨s.size - j - 1,by omega⟩;have hle:=Tp (s.size - j) (s.data.toList.drop j);rw[List.length_drop,Ab]at hle;obtain⟨f',q1,q2⟩:=Tq (s.size - j) f s.data.toList j out (by rw[Ab];omega) (by rw[Ab];omega);rw[Ab]at q1;have hnone:D7 (s.size - j) (s.data.toList.drop j)=0->RES=.bad (if c.toNat<32 then 4 else 3) j:=fun e=>by
      obtain⟨g,rfl⟩: ∃g,f=g+1:=⟨f - 1,by omega⟩;rw[hnn]at e;rw[<-h4,Z8 hg h34 h92 e]
     generalize hpl:D7 (s.size - j) (s.data.toList.drop j)=p at hP hle q1 q2 hnone;clear hext hsz hnn hg h34 h92 hI hpl;by_cases hp0:p=0
     . subst hp0;have hR:=hnone rfl;have hW:=fun W=>Sq c W;have t0:((0:Int)==0)=true:=rfl;generalize (if c.toNat<32 then(4:Int)else 3)=E at hW hR;obtain⟨HP,H1,H2,H3,H4,HR,HW,Q2,Hnone⟩:=hid9 hP h1 h2 h3 h4 hR hW q2 hnone;clear hP h1 h2 h3 h4 hR hW q2 hnone;go_wp2_with (fail);(with_reducible refine(HP.out).mono ?_);rintro e w2 ⟨rfl,hb2⟩;have hB:=qz (H1.out.trans (hb2.mono H1.out.size));clear hb2;go_wp2_with (fail);(with_reducible refine(HW.out _).mono ?_);rintro e w3 ⟨rfl,rfl⟩;go_wp2
       try rw[Exit.noGoto_ret]
       exact bodyPost_ret (Am rfl _ _ _) rfl ⟨by rw[HR.out];rfl,hB.out⟩
     . have t0:((p:Int)==0)=false:=by rw[beq_eq_false_iff_ne];omega
       have hex:(s.extract j (j+p)).data.toList=(s.data.toList.drop j).take p:=by rw[Lib.extract_data];congr 1;omega
       have hsx:(s.extract j (j+p)).size=p:=by rw[ByteArray.size_extract];omega
       have hnext: ∀W W',Below wr.heap.size wr W->BB W' w.heap.size w.heap.size (out++(s.extract j (j+p)).data.toList)->Below w.heap.size W W'->Eo w.heap.size W W'->UI s w RES (j+p) mm W':=by
        intro W W' a1 a2 a3 a4;refine⟨_,f',(h1.trans (a1.mono h1.size)).trans a3,a2,fun mb e=> ?_,by rw[hex,<-q2];exact h4,q1,by rw[List.length_append,hex,List.length_take,List.length_drop];omega⟩;obtain⟨b1,b2⟩:=h3 mb e;have hlm:mb<wr.heap.size:=(Array.getElem?_eq_some_iff.1 b2).1;exact⟨b1,a4 _ _ ((a1.block mb hlm).trans b2) (by simp;omega) (fun c fz e=>by cases e)⟩
       have hWS: ∀W,Below wr.heap.size wr W->Calls Tryz.prog 193 #[.pointer (some ⟨w.heap.size,0,none⟩),.string (s.extract j (j+p))] W (fun e W'=>e=.returned (.tuple #[.int .i64 p,.nilIface])/\UI s w RES (j+p) mm W'):=by
        intro W a1;refine(H8 (s.extract j (j+p)) (h2.below a1) (by omega)).mono ?_;rintro e W' ⟨rfl,b1,b2,b3⟩;rw[hsx];exact⟨rfl,hnext W W' a1 b1 b2 b3⟩
       obtain⟨HP,H1,H2,H3,H4,Q2,Hnone,HWS,Hnext⟩:=hid9 hP h1 h2 h3 h4 q2 hnone hWS hnext;clear hP h1 h2 h3 h4 q2 hnone hWS hnext;clear hex hsx;go_wp2_with (fail);(with_reducible refine(HP.out).mono ?_);rintro e w2 ⟨rfl,hb2⟩;have HW2:=qz (HWS.out w2 hb2);have Hb2:=qz hb2;clear hb2;go_wp2_with (fail);(with_reducible refine(HW2.out).mono ?_);rintro e w3 ⟨rfl,hu2⟩;have HU2:=qz hu2;clear hu2;go_wp2;go_roundw
       case rel=>exact⟨j+p,_,rfl,by go_num,by omega,HU2⟩
       case measure=>simp[intOf];omega
  . obtain rfl:j=s.size:=by omega
    obtain⟨out,f,h1,h2,h3,h4,h5,h6⟩:=hI.out;obtain⟨f,rfl⟩: ∃g,f=g+1:=⟨f - 1,by omega⟩;have hR:RES=.bad 4 s.size:=by
     rw[<-h4];unfold E6;rw[List.getElem?_eq_none (by rw[Ab];exact Nat.le_refl _)]
    obtain⟨H1,H2,H3,H4,HR⟩:=hid5 h1 h2 h3 h4 hR;clear h1 h2 h3 h4 hR;clear hI;go_wp2
    try rw[Exit.noGoto_ret]
    exact bodyPost_ret (Am rfl _ _ _) rfl ⟨by rw[HR.out];rfl,H1.out⟩
def Ahs (R g:Nat) (s:ByteArray) (w:World) (r:Rd (List UInt8)) (e:Ending) (w':World):Prop:=match r with
 | .ok a q=>e=.returned (.string ⟨a.toArray⟩)/\Bd R g s q w w'
 | .bad c q=>e=Ju c q/\w.grownBy w' (some R)
def Fv (R g:Nat) (s:ByteArray) (w:World) (r:Rd Val) (e:Ending) (w':World):Prop:=match r with
 | .ok v q=>(∃cs:List Value,e=.returned (.agg cs.toArray)/\Br w.heap.size w' (dV v) cs)/\Bd R g s q w w'
 | .bad c q=>e=Ju c q/\w.grownBy w' (some R)
theorem Bu {b:Nat} {w:World} (k:Int) (c:Bool) (n:Int) (t:ByteArray):Br b w (dV (.mk k c n t [] [])) [.int .i64 k,.bool c,.int .i64 n,.string t,.slice none 0 0,.slice none 0 0]:=fun w'' _ _=>by
 refine D3 _ _ ?_;simp only[Ac];exact⟨none,0,none,0,rfl,by simp,by simp⟩
theorem Ada {s:List UInt8} {p:Nat} {e:Int} {q:Nat} (hp:p<=s.length) (h:Cv s p=.bad e q):1<=e:=by
 have:=D8 hp;rw[h]at this;exact this.2.2.1
theorem Gj (R g:Nat) (s:ByteArray) (k:Nat) (w:World) (hT:B3 w) (hs:s.size<=1000000000) (hk:k<=s.size) (h:S5 w R g s k):
 Calls Tryz.prog 205 #[.pointer (some ⟨R,0,none⟩)] w (Ahs R g s w (Cv s.data.toList k)):=by
 have hU:=fun(W:World) (hB:Below w.heap.size w W)=>Adb s k W (hT.below hB) hs hk;obtain⟨c0,c1,_,f1,hR⟩:=h.cells
 cases hr:Cv s.data.toList k with
 |ok a q=>
  rw[hr]at hU;simp only[Ox]at hU;have t0:((0:Int) != 0)=false:=rfl;obtain⟨HU,H,HT,Hr⟩:=hid4 hU h hT hr;clear hU h hT hr;go_enter Tryz.func205,Tryz.ntmps205;go_wp2
  go_region_held3 (fun W=>W.cell? ⟨R,0,none⟩=some (.string s)/\W.cell? ⟨R,1,none⟩=some (.int .i64 k)) (go_keep) (first|(go_at_call 248;refine(HU.out _ (Below.drew (Below.refl _ _))).mono ?_;rintro e w1 ⟨rfl,hb1⟩;have hbr1:Below w.heap.size w w1:=(Below.drew (Below.refl _ _)).trans hb1;obtain⟨hc1,hf1⟩:=Ue hbr1))
  all_goals
   have hB:Bd R g s k w w1:=(Bd.refl H.out).below hbr1;obtain⟨d0,d1,_,d2,d3⟩:=hB.2.cells;have HB:=qz hB;clear hB;clear hc1 hf1 hb1 hbr1;go_wp2;go_ret;exact⟨rfl,HB.out.set q⟩
 |bad c q=>
  have hc1:=Ada (by rw[Ab];exact hk) hr;rw[hr]at hU;simp only[Ox]at hU;have t0:(c != 0)=true:=by rw[bne_iff_ne];omega
  have HW:=qz (fun W=>Ca (.pointer (some ⟨R,0,none⟩)) c q W);obtain⟨HU,H,HT,Hr⟩:=hid4 hU h hT hr;clear hU h hT hr;go_enter Tryz.func205,Tryz.ntmps205;go_wp2
  go_region_held3 (fun W=>W.cell? ⟨R,0,none⟩=some (.string s)/\W.cell? ⟨R,1,none⟩=some (.int .i64 k)) (go_keep) (first|(go_at_call 248;refine(HU.out _ (Below.drew (Below.refl _ _))).mono ?_;rintro e w1 ⟨rfl,hb1⟩;have hbr1:Below w.heap.size w w1:=(Below.drew (Below.refl _ _)).trans hb1;obtain⟨hc1,hf1⟩:=Ue hbr1))
  all_goals
   have hB:=qz hbr1;clear hc1 hf1 hb1 hbr1;go_wp2_with (fail);(with_reducible refine(HW.out _).mono ?_);rintro e w2 ⟨rfl,rfl⟩;exact⟨rfl,rfl,Oh _ hB.out⟩
theorem Bd.unAlloc {R g q:Nat} {s:ByteArray} {w w1:World} {o:Obj} (h:Bd R g s q (w.alloc o) w1):Bd R g s q w w1:=⟨Bv (Gh (World.grownBy.refl _ _) o) h.1,h.2⟩
theorem Fe {R:Option Nat} {w w1:World} {o:Obj} (h:(w.alloc o).grownBy w1 R):w.grownBy w1 R:=Bv (Gh (World.grownBy.refl _ _) o) h
theorem Bd.many {R g q B:Nat} {s:ByteArray} {w:World} (hB:w.heap.size<=B) (hR:R<w.heap.size): ∀(vs:List Value) (o:Nat) {w1:World},Bd R g s q w w1->Bd R g s q w (An w1 B o vs)
 | [],_,_,h=>h
 |v::vs,o,w1,h=>Bd.many hB hR vs (o+1) ⟨Kl h.1 ⟨B,o,none⟩ (.inr hB) v,Aj.far h.2 (by show R≠B;omega) v⟩
theorem Bd.res {R g q:Nat} {s:ByteArray} {w w1:World} {t:TypeId} {cs:Array Value} (h:Bd R g s q (w.alloc (.cells cs t)) w1) (hR:R<w.heap.size):Aj w1 w.heap.size t cs:=(Aj.new w t cs).grown h.1 (by intro e;cases e;omega)
theorem Oy {s:List UInt8} {p q:Nat} {l:List UInt8} {v v':Val} (h:C2 s p l v=.ok v' q):v'=v:=by
 unfold C2 at h
 split at h
 . cases h;rfl
 . cases h
theorem U8 (R g:Nat) (s:ByteArray) (k:Nat) (d:Int) (w:World) (hT:B3 w) (hs:s.size<=1000000000) (hk:k<=s.size) (h:S5 w R g s k):
 Calls Tryz.prog 147 #[.pointer (some ⟨R,0,none⟩),.int .i64 d] w (Fv R g s w ((Cv s.data.toList k).map Ac8)):=by
 have hR:R<w.heap.size:=Aj.lt h;have hQ:=Gj R g s k (w.alloc (.cells A5 37)) (hT.below (Aa _ _)) hs hk (Aj.alloc h _)
 cases hr:Cv s.data.toList k with
 |ok a q=>
  rw[hr]at hQ;simp only[Rd.map];clear hr hT h;have HQ:=qz hQ;clear hQ;go_enter Tryz.func147,Tryz.ntmps147;go_wp2_with (fail);(with_reducible refine(HQ.out).mono ?_);rintro e w1 ⟨rfl,h1⟩;have hxr:=h1.res hR;have H1':=qz h1.unAlloc;have hlt:=hxr.lt;obtain⟨c0,c1,c2,c3,c4,c5⟩:=Az hxr;have fz:=hxr.frozen;obtain⟨Hxr,H1⟩:=hid2 hxr h1;clear hxr h1;dsimp only
  repeat go_step
  have hxf:=((((((Hxr.out.set_ 0 (.int .i64 4)).set_ 1 (.bool false)).set_ 2 (.int .i64 0)).set_ 3 (.string ⟨a.toArray⟩)).set_ 4 (.slice none 0 0)).set_ 5 (.slice none 0 0));exact bodyPost_ret (Cj rfl rfl hxf) rfl ⟨⟨_,rfl,Bu 4 false 0 _⟩,Bd.many (Nat.le_refl _) hR [.int .i64 4,.bool false,.int .i64 0,.string ⟨a.toArray⟩,.slice none 0 0,.slice none 0 0] 0 H1'.out⟩
 |bad c q=>
  rw[hr]at hQ;simp only[Rd.map];clear hr hT h;have HQ:=qz hQ;clear hQ;go_enter Tryz.func147,Tryz.ntmps147;go_wp2_with (fail);(with_reducible refine(HQ.out).mono ?_);rintro e w1 ⟨rfl,h1⟩;exact⟨rfl,rfl,Fe h1⟩
theorem Z4 (R g:Nat) (s:ByteArray) (k:Nat) (d:Int) (w:World) (hs:s.size<=1000000000) (hk:k<=s.size) (h:S5 w R g s k):
 Calls Tryz.prog 144 #[.pointer (some ⟨R,0,none⟩),.int .i64 d] w (Fv R g s w (C2 s.data.toList k [110,117,108,108] Nn)):=by
 have hR:R<w.heap.size:=Aj.lt h;have hQ:=Mq R g s ⟨#[110,117,108,108]⟩ k Nn (w.alloc (.cells A5 37)) hs hk (by decide) (Aj.alloc h _);dsimp only at hQ
 cases hr:C2 s.data.toList k [110,117,108,108] Nn with
 |ok a q=>
  obtain rfl:=Oy hr;rw[hr]at hQ;clear hr h;have HQ:=qz hQ;clear hQ;go_enter Tryz.func144,Tryz.ntmps144;go_wp2_with (fail);(with_reducible refine(HQ.out).mono ?_);rintro e w1 ⟨rfl,h1⟩;have hxr:=h1.res hR;have H1':=qz h1.unAlloc;have hlt:=hxr.lt;obtain⟨c0,c1,c2,c3,c4,c5⟩:=Az hxr;have fz:=hxr.frozen;obtain⟨Hxr,H1⟩:=hid2 hxr h1;clear hxr h1;dsimp only
  repeat go_step
  have hxf:=((((((Hxr.out.set_ 0 (.int .i64 1)).set_ 1 (.bool false)).set_ 2 (.int .i64 0)).set_ 3 (.string ⟨#[]⟩)).set_ 4 (.slice none 0 0)).set_ 5 (.slice none 0 0));exact bodyPost_ret (Cj rfl rfl hxf) rfl ⟨⟨_,rfl,Bu 1 false 0 _⟩,Bd.many (Nat.le_refl _) hR [.int .i64 1,.bool false,.int .i64 0,.string ⟨#[]⟩,.slice none 0 0,.slice none 0 0] 0 H1'.out⟩
 |bad c q=>
  rw[hr]at hQ;clear hr h;have HQ:=qz hQ;clear hQ;go_enter Tryz.func144,Tryz.ntmps144;go_wp2_with (fail);(with_reducible refine(HQ.out).mono ?_);rintro e w1 ⟨rfl,h1⟩;exact⟨rfl,rfl,Fe h1⟩
theorem Adh (R g:Nat) (s:ByteArray) (k:Nat) (d:Int) (w:World) (hs:s.size<=1000000000) (hk:k<=s.size) (h:S5 w R g s k):
 Calls Tryz.prog 146 #[.pointer (some ⟨R,0,none⟩),.int .i64 d] w (Fv R g s w (C2 s.data.toList k [116,114,117,101] (Ir true))):=by
 have hR:R<w.heap.size:=Aj.lt h;have hQ:=Mq R g s ⟨#[116,114,117,101]⟩ k (Ir true) (w.alloc (.cells A5 37)) hs hk (by decide) (Aj.alloc h _);dsimp only at hQ
 cases hr:C2 s.data.toList k [116,114,117,101] (Ir true)with
 |ok a q=>
  obtain rfl:=Oy hr;rw[hr]at hQ;clear hr h;have HQ:=qz hQ;clear hQ;go_enter Tryz.func146,Tryz.ntmps146;go_wp2_with (fail);(with_reducible refine(HQ.out).mono ?_);rintro e w1 ⟨rfl,h1⟩;have hxr:=h1.res hR;have H1':=qz h1.unAlloc;have hlt:=hxr.lt;obtain⟨c0,c1,c2,c3,c4,c5⟩:=Az hxr;have fz:=hxr.frozen;obtain⟨Hxr,H1⟩:=hid2 hxr h1;clear hxr h1;dsimp only
  repeat go_step
  have hxf:=((((((Hxr.out.set_ 0 (.int .i64 2)).set_ 1 (.bool true)).set_ 2 (.int .i64 0)).set_ 3 (.string ⟨#[]⟩)).set_ 4 (.slice none 0 0)).set_ 5 (.slice none 0 0));exact bodyPost_ret (Cj rfl rfl hxf) rfl ⟨⟨_,rfl,Bu 2 true 0 _⟩,Bd.many (Nat.le_refl _) hR [.int .i64 2,.bool true,.int .i64 0,.string ⟨#[]⟩,.slice none 0 0,.slice none 0 0] 0 H1'.out⟩
 |bad c q=>
  rw[hr]at hQ;clear hr h;have HQ:=qz hQ;clear hQ;go_enter Tryz.func146,Tryz.ntmps146;go_wp2_with (fail);(with_reducible refine(HQ.out).mono ?_);rintro e w1 ⟨rfl,h1⟩;exact⟨rfl,rfl,Fe h1⟩
theorem Ae2 (R g:Nat) (s:ByteArray) (k:Nat) (d:Int) (w:World) (hs:s.size<=1000000000) (hk:k<=s.size) (h:S5 w R g s k):
 Calls Tryz.prog 145 #[.pointer (some ⟨R,0,none⟩),.int .i64 d] w (Fv R g s w (C2 s.data.toList k [102,97,108,115,101] (Ir false))):=by
 have hR:R<w.heap.size:=Aj.lt h;have hQ:=Mq R g s ⟨#[102,97,108,115,101]⟩ k (Ir false) (w.alloc (.cells A5 37)) hs hk (by decide) (Aj.alloc h _);dsimp only at hQ
 cases hr:C2 s.data.toList k [102,97,108,115,101] (Ir false)with
 |ok a q=>
  obtain rfl:=Oy hr;rw[hr]at hQ;clear hr h;have HQ:=qz hQ;clear hQ;go_enter Tryz.func145,Tryz.ntmps145;go_wp2_with (fail);(with_reducible refine(HQ.out).mono ?_);rintro e w1 ⟨rfl,h1⟩;have hxr:=h1.res hR;have H1':=qz h1.unAlloc;have hlt:=hxr.lt;obtain⟨c0,c1,c2,c3,c4,c5⟩:=Az hxr;have fz:=hxr.frozen;obtain⟨Hxr,H1⟩:=hid2 hxr h1;clear hxr h1;dsimp only
  repeat go_step
  have hxf:=((((((Hxr.out.set_ 0 (.int .i64 2)).set_ 1 (.bool false)).set_ 2 (.int .i64 0)).set_ 3 (.string ⟨#[]⟩)).set_ 4 (.slice none 0 0)).set_ 5 (.slice none 0 0));exact bodyPost_ret (Cj rfl rfl hxf) rfl ⟨⟨_,rfl,Bu 2 false 0 _⟩,Bd.many (Nat.le_refl _) hR [.int .i64 2,.bool false,.int .i64 0,.string ⟨#[]⟩,.slice none 0 0,.slice none 0 0] 0 H1'.out⟩
 |bad c q=>
  rw[hr]at hQ;clear hr h;have HQ:=qz hQ;clear hQ;go_enter Tryz.func145,Tryz.ntmps145;go_wp2_with (fail);(with_reducible refine(HQ.out).mono ?_);rintro e w1 ⟨rfl,h1⟩;exact⟨rfl,rfl,Fe h1⟩
theorem O5: ∀a b:List UInt8,Lib.compareBytes a b<0 ↔ Op.bytesLess a b=true
 | [], []=>by decide
 | [],_::_=>by simp[Lib.compareBytes,Op.bytesLess]
 |_::_, []=>by simp[Lib.compareBytes,Op.bytesLess]
 |a::x,b::y=>by
  have ih:=O5 x y;have e1:Lib.compareBytes (a::x) (b::y)=if a<b then -1 else if b<a then 1 else Lib.compareBytes x y:=rfl;have e2:Op.bytesLess (a::x) (b::y)=(decide (a<b)||(a==b&&Op.bytesLess x y)):=rfl;rw[e1,e2];by_cases h:a<b
  . rw[if_pos h];simp[h]
  . rw[if_neg h];by_cases h':b<a
    . rw[if_pos h'];have hne:(a==b)=false:=by rw[beq_eq_false_iff_ne];rintro rfl;exact absurd h' h
      simp[h,hne]
    . rw[if_neg h',ih];have hab:a=b:=UInt8.toNat_inj.1 (by rw[UInt8.lt_iff_toNat_lt]at h h';omega);subst hab;simp[h]
theorem Aft (a b:List UInt8):decide (Lib.compareBytes a b<0)=Op.bytesLess a b:=by
 rw[Bool.eq_iff_iff,decide_eq_true_iff];exact O5 a b
structure MC where
 key:ByteArray
 val:Val
 cs:List Value
 len:cs.length=6
 one: ∀v ∈ cs,v.oneCell'=true
instance:Inhabited MC:=⟨⟨Gu,Nn, [.int .i64 0,.int .i64 0,.int .i64 0,.int .i64 0,.int .i64 0,.int .i64 0],rfl,by simp[Value.oneCell']⟩⟩
def MC.enc (x:MC):List Value:=.string x.key::x.cs
def MC.pair (x:MC):ByteArray×Val:=(x.key,x.val)
def cfM (x y:MC):Int:=Lib.compareBytes x.key.data.toList y.key.data.toList
theorem Af7 (x y:MC):ltOf cfM x y=C8 x.key y.key:=by
 unfold ltOf cfM C8;rw[Aft,Lib.toList_data,Lib.toList_data]
theorem Aie:Sort.SWO (ltOf cfM) where
 irrefl x:=by rw[Af7];exact Jz _
 trans x y z:=by simp only[Af7];exact De
 ntrans x y z:=by
  simp only[Af7];intro h1 h2
  cases h3:C8 x.key z.key with
  |false=>rfl
  |true=>
   exfalso
   rcases Lf y.key x.key with h|h|h
   . have:=De h h3;rw[h2]at this;cases this
   . rw[<-h]at h3;rw[h2]at h3;cases h3
   . rw[h1]at h;cases h
theorem Lb (x:MC):x.enc.length=7:=by simp[MC.enc,x.len]
theorem Ab4 (x:MC): ∀v ∈ x.enc,v.oneCell'=true:=by
 intro v hv;rcases List.mem_cons.1 hv with rfl|hv
 . rfl
 . exact x.one v hv
theorem Yf {l:List Value} (h:l.length=6): ∃a b c d e f,l= [a,b,c,d,e,f]:=by
 match l,h with
 | [a,b,c,d,e,f],_=>exact⟨a,b,c,d,e,f,rfl⟩
theorem Ag4 (x y:MC) (W:World):Calls Tryz.prog 209 #[.agg x.enc.toArray,.agg y.enc.toArray] W fun e w'=>e=.returned (.int .i64 (cfM x y))/\ ∃q os,w'=Sort.grow (W.drewN q) os:=by
 obtain⟨kx,vx,cx,lx,ox⟩:=x;obtain⟨ky,vy,cy,ly,oy⟩:=y;obtain⟨a0,a1,a2,a3,a4,a5,rfl⟩:=Yf lx;obtain⟨b0,b1,b2,b3,b4,b5,rfl⟩:=Yf ly;have hC:=fun W=>Tryz.strings_Compare kx ky W;have HA:=qz Sort.alloc_eq_grow;simp only[MC.enc,cfM];generalize Lib.compareBytes kx.data.toList ky.data.toList=r at hC ⊢;have n0:=ox a0 (by simp);have n1:=ox a1 (by simp);have n2:=ox a2 (by simp);have n3:=ox a3 (by simp);have n4:=ox a4 (by simp);have n5:=ox a5 (by simp);have m0:=oy b0 (by simp);have m1:=oy b1 (by simp);have m2:=oy b2 (by simp);have m3:=oy b3 (by simp);have m4:=oy b4 (by simp);have m5:=oy b5 (by simp);have HC:=qz hC;clear hC;go_enter Tryz.func209,Tryz.ntmps209;go_wp2_with (fail);(with_reducible refine(HC.out _).mono ?_);rintro e w2 ⟨rfl,rfl⟩;go_wp2;go_ret;refine⟨rfl,0, #[.cells #[.string kx,a0,a1,a2,a3,a4,a5] 94,.cells #[.string ky,b0,b1,b2,b3,b4,b5] 94], ?_⟩;rw[HA.out,HA.out,Sort.grow_grow];rfl
theorem Aa6 (k:Nat) (hk:0<k): ∀(l:List MC) (t:Nat),(∀x ∈ l,x.enc.length=k)->(l.flatMap MC.enc)[t]? =(l[t / k]?).bind fun x=>x.enc[t % k]?
 | [],t,_=>by simp
 |x::r,t,h=>by
  have hx:=h x (by simp);rw[List.flatMap_cons];by_cases ht:t<k
  . rw[List.getElem?_append_left (by omega),Nat.div_eq_of_lt ht,Nat.mod_eq_of_lt ht];simp
  . rw[List.getElem?_append_right (by omega),hx,Aa6 k hk r (t - k) (fun y hy=>h y (by simp[hy]))];have h1:t / k=(t - k) / k+1:=by rw[Nat.div_eq_sub_div hk (by omega)]
    have h2:t % k=(t - k) % k:=Nat.mod_eq_sub_mod (by omega);rw[h1,h2,List.getElem?_cons_succ]
theorem Md: ∀l:List MC,(l.flatMap MC.enc).length=l.length*7
 | []=>rfl
 |x::r=>by rw[List.flatMap_cons,List.length_append,Md r,Lb,List.length_cons];omega
theorem W5 (l:List MC):Sort.flatK MC.enc 7 l.toArray=(l.flatMap MC.enc).toArray:=by
 apply Array.ext
 . rw[Sort.size_flatK,List.size_toArray,List.size_toArray,Md]
 . intro t h1 h2;rw[Sort.size_flatK,List.size_toArray]at h1;have e1:=Sort.get_flatK MC.enc 7 l.toArray t (by simpa using h1);have e2:=Aa6 7 (by decide) l t (fun x _=>Lb x);have hd:t / 7<l.length:=by omega
   have hm:t % 7<(l[t / 7]).enc.length:=by rw[Lb];omega
   rw[List.getElem?_eq_getElem hd,Option.bind_some,List.getElem?_eq_getElem hm]at e2;have e3:(l.flatMap MC.enc)[t]'(by simpa using h2)=(l[t / 7]).enc[t % 7]:=by
    rw[List.getElem?_eq_getElem (by simpa using h2)]at e2;exact Option.some.inj e2
   rw[getElem!_pos _ t (by rw[Sort.size_flatK];simpa using h1)]at e1;rw[e1,tk1,e3];have e4:(l.toArray)[t / 7]! =l[t / 7]:=by rw[getElem!_pos _ _ (by simpa using hd)];simp
   rw[e4,getElem!_pos (l[t / 7]).enc (t % 7) hm]
theorem Wo {F:World->Prop} {B:Nat}: ∀(acc:List (ByteArray×Val)) (ns:List Value),(∃w,F w)->(∀w'',F w''->Ag w'' B (dO acc) ns)->
 ∃d:List MC,d.map MC.pair=acc/\ns=d.flatMap MC.enc/\ ∀w'',F w''-> ∀x ∈ d,Ah w'' B (dP x.pair) x.enc
 | [],ns,⟨w,hw⟩,h=>⟨[],rfl,h w hw,by simp⟩
 |m::r,ns,⟨w,hw⟩,h=>by
  have h0:=h w hw;simp only[dO,Ag]at h0;obtain⟨c1,c2,rfl,h1,h2⟩:=h0;have l1:=h1.len;rw[Cs]at l1;have h1':=h1;obtain⟨k,v⟩:=m;simp only[dP,Ah,Ag]at h1';obtain⟨e1,e2,rfl,⟨rfl,_⟩,e3,e4,rfl,hV,rfl⟩:=h1';rw[List.append_nil]at*
  have l6:e3.length=6:=by have:=l1.1;simp at this;omega
  have key: ∀w'',F w''->Ah w'' B (dP (k,v)) (.string k::e3)/\Ag w'' B (dO r) c2:=by
   intro w'' hw'';have h3:=h w'' hw'';simp only[dO,Ag]at h3;obtain⟨f1,f2,e,g1,g2⟩:=h3;have l2:=g1.len.1;rw[Cs]at l2;obtain⟨rfl,rfl⟩:=List.append_inj e (by rw[l2];simpa using l6);exact⟨g1,g2⟩
  obtain⟨d,d1,d2,d3⟩:=Wo r c2 ⟨w,hw⟩ (fun w'' hw''=>(key w'' hw'').2);refine⟨⟨k,v,e3,l6,fun u hu=>l1.2 u (by simp[hu])⟩::d,by simp[MC.pair,d1],by simp[MC.enc,d2],fun w'' hw'' x hx=> ?_⟩;rcases List.mem_cons.1 hx with rfl|hx
  . exact(key w'' hw'').1
  . exact d3 w'' hw'' x hx
theorem Ko {w:World} {B:Nat}: ∀(d:List MC),(∀x ∈ d,Ah w B (dP x.pair) x.enc)->Ag w B (dO (d.map MC.pair)) (d.flatMap MC.enc)
 | [],_=>rfl
 |x::r,h=>by
  simp only[List.map_cons,dO,List.flatMap_cons,Ag];exact⟨x.enc,_,rfl,h x (by simp),Ko r (fun y hy=>h y (by simp[hy]))⟩
theorem Vm {d d':List MC} (hp:d'.Perm d) (hn:((d.map MC.pair).map (·.1)).Nodup) (hs: ∀i j,(hij:i<j)->(h:j<d'.length)->C8 (d'[j]).key (d'[i]'(by omega)).key=false):d'.map MC.pair=Ig (d.map MC.pair):=by
 obtain⟨_,s2,s3⟩:=Mn hn;refine Q0 ?_ s2 ((hp.map MC.pair).trans s3.symm);have hn':((d'.map MC.pair).map (·.1)).Nodup:=(((hp.map MC.pair).map (·.1)).nodup_iff).2 hn;unfold B8;rw[List.pairwise_iff_getElem];intro i j hi hj hij;simp only[List.length_map]at hi hj;simp only[List.getElem_map,MC.pair];rcases Lf (d'[i]).key (d'[j]).key with h|h|h
 . exact h
 . rw[List.map_map,List.nodup_iff_pairwise_ne,List.pairwise_iff_getElem]at hn';exact absurd (by rw[List.getElem_map,List.getElem_map];exact h) (hn' i j (by simpa using hi) (by simpa using hj) hij)
 . rw[hs i j hij hj]at h;cases h
theorem Afa {w:World} {g n:Nat} {os:Array Obj} {cur F:Array Value} {e:TypeId} {fr:Nat×Nat} (hb:w.heap[g]? =some (.cells cur e fr)):
 (Sort.grow (Sort.putRow id (Sort.ahead w n) g 0 F) os).heap[g]? =some (.cells (Sort.putCells id 0 F cur) e fr):=by
 have hg:g<w.heap.size:=(Array.getElem?_eq_some_iff.1 hb).1;rw[Sort.heap_grow_old _ _ (by simpa using hg)];simp[Sort.putRow,Sort.mapBlock,Sort.ahead,Array.getElem?_modify,hb,Sort.onCells]
theorem X1 {w:World} {g n:Nat} {os:Array Obj} (F:Array Value):w.grownBy (Sort.grow (Sort.putRow id (Sort.ahead w n) g 0 F) os) (some g):=by
 refine⟨rfl,rfl,rfl,by simp,fun k hk hne=> ?_⟩;rw[Sort.heap_grow_old _ _ (by simpa using hk)];have:g≠k:=fun e=>hne (by rw[e]);simp[Sort.putRow,Sort.mapBlock,Sort.ahead,Array.getElem?_modify,this]
theorem Sw {b:Nat} {w:World} {acc:List (ByteArray×Val)} {V:Value} (hr:Dg b 94 7 w (dO acc) V) (hb:b<=w.heap.size) (hn:(acc.map (·.1)).Nodup) (hlen:acc.length<=1000000000):
 Calls Tryz.prog 208 #[V,.func (.func 209) #[] #[]] w fun e w'=>e=.returned (.tuple #[])/\w.grownBy w' V.ownBlock/\Br b w' (.row 7 (dO (Ig acc))) [V]:=by
 have hr0:=hr;obtain⟨ns,h1,h2,h3⟩:=hr;rcases h1.2 with⟨rfl,h0⟩|⟨g,cap,cur,rfl,hbg,hg,hnc,_,hsz,htk⟩
 . have hl:acc= []:=by rw[Ax]at h0;exact List.eq_nil_of_length_eq_zero h0
   subst hl;refine(AnyF.slices_SortFunc_none Tryz.sortFunc none 0 (.func (.func 209) #[] #[]) w).mono ?_;rintro e w' ⟨rfl,rfl⟩;exact⟨rfl,World.grownBy.refl _ _,fun _ _ _=>⟨none,0,rfl,by simp[Ig,B9,dO], [],rfl,by simp[Ig,B9,dO]⟩⟩
 . have hgl:=(Array.getElem?_eq_some_iff.1 hg).1;obtain⟨d,rfl,rfl,d3⟩:=Wo (F:=fun w''=>w.heap.size<=w''.heap.size/\ ∀p:Addr,b<=p.block->p.block<w.heap.size->(Value.slice (some ⟨g,0,none⟩) (dO acc).length cap).ownBlock≠some p.block->w''.cell? p=w.cell? p) acc ns ⟨w,Nat.le_refl _,fun _ _ _ _=>rfl⟩ (fun w'' hw=>h3 w'' hw.1 hw.2);have hdl:(dO (d.map MC.pair)).length=d.toArray.size:=by rw[Ax];simp
   have hH:Sort.HoldsK MC.enc 7 w g 0 d.toArray:=by
    unfold Sort.HoldsK;rw[W5];intro j hj;have hj':j<(d.flatMap MC.enc).length:=by simpa using hj
    have h5:=h1.cells (g:=g) rfl j ((d.flatMap MC.enc)[j]) (List.getElem?_eq_getElem hj');rw[Bf]at h5;rw[getElem!_pos _ j hj];exact⟨h5,(show Aj w g 94 cur from hg).frozen _⟩
   have eg: ∀args w,(callFunc 209 args).run Tryz.prog w=.ok (.enter 209 args) w:=enters_of Tryz.func209 (by kernel_rfl) rfl;have hC:CmpLays Tryz.prog 209 #[] MC.enc 7 cfM g 0 d.toArray.size w:=fun m os dk _ x y=>Ag4 x y _;have hS:=AnyQ.slices_SortFunc Tryz.sortFunc 7 (fun w=>by kernel_rfl) (fun w=>by kernel_rfl) MC.enc Lb Ab4 cfM Aie 209 #[] g 0 cap d.toArray w eg hC hH hgl (by simp at hlen ⊢;omega);rw[hdl];refine hS.mono ?_;rintro e w' ⟨rfl,d',n,os,hp,hso,rfl⟩;obtain⟨p1,_,p3⟩:=hp;rw[Array.extract_size,<-p1,Array.extract_size]at p3;have hpe:d'.toList.Perm d:=by simpa using p3
   have hsp:=Vm hpe hn (fun i j hij hj=>by
    have:=hso i j (Nat.zero_le _) hij (by rw[<-p1];simpa using hj);rw[Af7,getElem!_pos d' j (by simpa using hj),getElem!_pos d' i (by have:j<d'.size:=(by simpa using hj);omega)]at this;simpa using this)
   have hF:Sort.flatK MC.enc 7 d'=(d'.toList.flatMap MC.enc).toArray:=by rw[<-W5]
   have hgb:w.grownBy (sortWorldK MC.enc 7 w g 0 n d' os) (some g):=X1 _;refine⟨rfl,hgb,fun w'' k1 k2=> ?_⟩;have hsl:(Ig (d.map MC.pair)).length=d.toArray.size:=by rw[<-hsp,List.length_map,Array.length_toList,p1]
   refine⟨_,cap,by rw[Ax,hsl],F2 _,d'.toList.flatMap MC.enc, ?_,.inr ⟨g,0,rfl,Nat.lt_of_lt_of_le hgl hgb.size,fun j u hu=> ?_⟩⟩
   . rw[<-hsp];refine Ko _ fun x hx=> ?_;have hxd:x ∈ d:=hpe.mem_iff.1 hx;refine Ah.more (d3 w'' ⟨Nat.le_trans hgb.size k1,fun p q1 q2 q3=> ?_⟩ x hxd) hgb.size;exact(k2 p q1 (Nat.lt_of_lt_of_le q2 hgb.size)).trans (World.cell?_of_block (hgb.block p.block q2 (fun e=>q3 e.symm)))
   . rw[Nat.zero_add];have hj:j<(d'.toList.flatMap MC.enc).length:=(List.getElem?_eq_some_iff.1 hu).1;have hjs:j<cur.size:=by
      rw[Md,Array.length_toList,p1]at hj;rw[hsz];have:d.toArray.size<=cap:=by rw[<-hdl];exact hnc
      have:=Nat.mul_le_mul_right 7 this;omega
     refine(k2 ⟨g,j,none⟩ hbg (Nat.lt_of_lt_of_le hgl hgb.size)).trans ?_;have hh:=Afa (n:=n) (os:=os) (F:=Sort.flatK MC.enc 7 d') hg;have hc:=(show Aj (Sort.grow (Sort.putRow id (Sort.ahead w n) g 0 (Sort.flatK MC.enc 7 d')) os) g 94 _ from hh).cell j;refine hc.trans ?_;rw[hF];have hjl:j<(d'.toList.map fun a=>a.enc.length).sum:=by rw[<-List.length_flatMap];exact hj
     simp[Sort.putCells,hjs,hjl];exact(List.getElem?_eq_some_iff.1 hu).2
end Go.Proofs.YtkmcjfkokoidcaaGreatDoor
